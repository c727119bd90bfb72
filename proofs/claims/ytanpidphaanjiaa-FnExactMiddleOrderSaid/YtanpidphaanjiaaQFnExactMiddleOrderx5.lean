/- The functions that the law FnExactMiddleOrder uses: each Go function as a Lean function, and the proof that the Go code comes to its answers (part 5). Written by wip/gen/own.py out of what print.sh printed for this seat, changed by that program where the printed text fell in Lean. Conditions: those of each theorem. -/
import Derived.Test.YtanpidphaanjiaaQFnExactMiddleOrderx0
import Derived.Test.YtanpidphaanjiaaQFnExactMiddleOrderx2
import Derived.Test.YtanpidphaanjiaaQFnExactMiddleOrderx4
namespace Go.Proofs.Ytanpidphaanjiaa.QFnExactMiddleOrder
open Go.RowKit Go.Proofs.YtanpidphaanjiaaW.PrintWords Go.Proofs.YtanpidphaanjiaaW.PrintLast Go.Proofs.YtanpidphaanjiaaW.PrintMore
attribute [local go_sem] max2_int min2_int max_two min_two max_three min_three max_four min_four   -- for this text's walks alone
set_option linter.unusedVariables false
set_option linter.unusedSimpArgs false

/-! ### impl_MiddleOrder: function 7 -/
/-- The points above of a point's wires, as they come. -/
def mdAbI (p : Int) : List (List Int) → List Int → List Int
  | [], o => o
  | w :: r, o => mdAbI p r (if rd w 1 = p then o ++ [rd w 0] else o)
def mdSorted (l : List (List Int)) (p : Int) : List Int := (mdAbI p l []).mergeSort fun x y => decide (x ≤ y)
def mdMidI (l : List (List Int)) (p : Int) : Int := if mdAbI p l [] = [] then -1 else rd (mdSorted l p) (((mdAbI p l []).length / 2 : Nat) : Int)
def mdRow (l : List (List Int)) (n : Nat) (i : Int) : List Int := (Sep.iota n).map (fun j => if j < i then mdMidI l j else 0)
def mdCmp (l : List (List Int)) (p q : Int) : Int := wrap64 (mdMidI l p - mdMidI l q)
def mdOrd (l : List (List Int)) (n : Nat) : List Int := Sep.isTo (mdCmp l) (Sep.iota n) n
theorem mdRow_length (l : List (List Int)) (n : Nat) (i : Int) : (mdRow l n i).length = n := by rw [mdRow, List.length_map, Sep.iota_length]
theorem md_iota_get (n q : Nat) (h : q < n) : (Sep.iota n)[q]? = some (q : Int) := by
  unfold Sep.iota
  rw [List.getElem?_map, List.getElem?_range h]
  rfl
theorem mdRow_rd (l : List (List Int)) (n : Nat) (i p : Int) (h0 : 0 ≤ p) (h1 : p < (n : Int)) : rd (mdRow l n i) p = if p < i then mdMidI l p else 0 := by
  unfold rd mdRow
  rw [List.getD_eq_getElem?_getD, List.getElem?_map, md_iota_get n p.toNat (by omega)]
  show (if ((p.toNat : Nat) : Int) < i then mdMidI l ((p.toNat : Nat) : Int) else 0) = _
  rw [Int.toNat_of_nonneg h0]
theorem mdRow_set (l : List (List Int)) (n : Nat) (i : Int) (h0 : 0 ≤ i) (h1 : i < (n : Int)) : (mdRow l n i).set i.toNat (mdMidI l i) = mdRow l n (i + 1) := by
  apply List.ext_getElem?
  intro q
  unfold mdRow
  rw [List.getElem?_set, List.getElem?_map, List.getElem?_map, List.length_map, Sep.iota_length]
  by_cases hq : q < n
  · rw [md_iota_get n q hq]
    by_cases e : i.toNat = q
    · subst e
      rw [if_pos rfl, if_pos hq]
      simp only [Option.map_some]
      rw [if_pos (by omega), Int.toNat_of_nonneg h0]
    · rw [if_neg e]
      simp only [Option.map_some]
      by_cases e2 : (q : Int) < i
      · rw [if_pos e2, if_pos (by omega)]
      · rw [if_neg e2, if_neg (by omega)]
  · have hn : (Sep.iota n)[q]? = none := List.getElem?_eq_none (by rw [Sep.iota_length]; omega)
    rw [hn, if_neg (by omega)]
    rfl
theorem mdRow_zero (l : List (List Int)) (n : Nat) : mdRow l n 0 = List.replicate n 0 := by
  apply List.ext_getElem?
  intro q
  unfold mdRow
  rw [List.getElem?_map]
  by_cases hq : q < n
  · rw [md_iota_get n q hq, List.getElem?_replicate, if_pos hq]
    simp only [Option.map_some]
    rw [if_neg (by omega)]
  · have hn : (Sep.iota n)[q]? = none := List.getElem?_eq_none (by rw [Sep.iota_length]; omega)
    rw [hn, List.getElem?_replicate, if_neg hq]
    rfl
theorem md_set2 (l : List Int) (i : Nat) (a b : Int) : (l.set i a).set i b = l.set i b := by
  apply List.ext_getElem?
  intro q
  simp only [List.getElem?_set, List.length_set]
  split <;> rfl
theorem mdAbI_length (p : Int) : ∀ (r : List (List Int)) (o : List Int), (mdAbI p r o).length ≤ o.length + r.length := by
  intro r
  induction r with
  | nil => intro o; exact Nat.le_refl _
  | cons w r ih =>
    intro o
    rw [mdAbI]
    split
    · have := ih (o ++ [rd w 0]); simp at this ⊢; omega
    · have := ih o; simp; omega

theorem ints_of {W : World} {b : Nat} {ok : Nat → Prop} {xs : List Int} {inner : List Value} (h : Reps ((Kd.int .i64).M W b ok) (Kd.int .i64).sz xs inner) : inner = xs.map (Value.int .i64) := by
  obtain ⟨h1, h2⟩ := h
  have h1' : inner.length = xs.length * 1 := h1
  apply List.ext_getElem?
  intro j
  rw [List.getElem?_map]
  cases hx : xs[j]? with
  | none =>
    rw [List.getElem?_eq_none_iff] at hx
    rw [List.getElem?_eq_none (by omega)]
    rfl
  | some x =>
    have h4 : (inner.drop (j * 1)).take 1 = [.int .i64 x] := h2 j x hx
    have h5 := congrArg (fun l : List Value => l[0]?) h4
    rw [List.getElem?_take_of_lt (by omega), List.getElem?_drop, Nat.mul_one, Nat.add_zero] at h5
    exact h5
/-- The library's sort over a row of the call's own. -/
theorem own_sort {e g n cap : Nat} {zs : List Int} {w0 W : World} {L : List Sep.Item} (h : Sep.Own w0 W L) (i : Nat) (hi : L[i]? = some (Sep.Item.row (Kd.int .i64) e (.slice (some ⟨g, 0, none⟩) n cap) zs)) :
    «Sort».Holds (Value.int .i64) W g 0 zs.toArray ∧ g < W.heap.size ∧ n = zs.length ∧ ∀ (ts : List Int) (q : Nat) (os : Array Obj), ts.length = zs.length → Sep.Own w0 («Sort».grow («Sort».putRow (Value.int .i64) («Sort».ahead W q) g 0 ts.toArray) os) (L.set i (Sep.Item.row (Kd.int .i64) e (.slice (some ⟨g, 0, none⟩) n cap) ts)) := by
  obtain ⟨P', hR, hb, hback⟩ := h.upd i hi
  obtain ⟨h0, inner, ho, hr⟩ := hR
  have hlen := (Kd.R_reads' ⟨h0, inner, ho, hr⟩).1
  subst hlen
  have hin : inner = zs.map (Value.int .i64) := ints_of hr
  subst hin
  rcases ho.2 with ⟨hv, _⟩ | ⟨g', cap', cur, hv, hg, hblk, hn, hcap, hsz, htake⟩
  · cases hv
  · cases hv
    rw [show zs.length * (Kd.int .i64).sz = zs.length from Nat.mul_one _] at htake
    refine ⟨holds_of_blockI hblk htake, blk_lt hblk, rfl, fun ts q os hl => ?_⟩
    have hP : P' g := h0 g (by simp [Value.ownBlock])
    refine hback _ _ ((Sep.Chg.grown (grownBy_sortedI (n := q) (os := os) ts.toArray)).mono (fun k hk => by injection hk with hk; subst hk; exact hP)) ?_
    have hS := ownsRow_sortedI (n := q) (os := os) hl hg hblk hn hcap hsz
    refine ⟨fun k hk => .inl (h0 k hk), ts.map (Value.int .i64), by rw [hl]; exact hS, ?_⟩
    exact Sep.reps_map _ _ _ _

open Go.Proofs.Ytanpidphaanjiaa.Sep in
set_option maxHeartbeats 8000000 in
set_option maxRecDepth 100000 in
theorem sort_ins (fv : FuncId) (fn : Func) (hfn : Try.prog.funcs[fv]? = some fn) (hnm : (fn.name == "runtime.NumGoroutine") = false) (hbd : fn.body.isSome = true) (caps : Array Value) (c : Int → Int → Int) (Pc : Int → Prop) (w0 : World) (F : List Sep.Item) (g n cap : Nat)
    (hcmp : ∀ (xs : List Int) (w : World) (p q : Int), Own w0 w (Sep.Item.row (Kd.int .i64) 3 (.slice (some ⟨g, 0, none⟩) n cap) xs :: F) → Pc p → Pc q → Calls Try.prog fv (#[.int .i64 p, .int .i64 q] ++ caps) w fun e w' => e = .returned (.int .i64 (c p q)) ∧ Own w0 w' (Sep.Item.row (Kd.int .i64) 3 (.slice (some ⟨g, 0, none⟩) n cap) xs :: F))
    (xs : List Int) (w : World) (_hx : ∀ y ∈ xs, Pc y) (_hn : xs.length = n) (_hb : 1 ≤ n ∧ n ≤ 1000) (_h : Own w0 w (Sep.Item.row (Kd.int .i64) 3 (.slice (some ⟨g, 0, none⟩) n cap) xs :: F)) :
    Calls Try.prog 39 #[(.slice (some ⟨g, 0, none⟩) n cap), .int .i64 0, .int .i64 (n : Int), .func (.func fv) #[] caps] w fun e w' => e = .returned (.tuple #[]) ∧ Own w0 w' (Sep.Item.row (Kd.int .i64) 3 (.slice (some ⟨g, 0, none⟩) n cap) (isTo c xs n) :: F) := by
  have HO := Aside0.mk _h
  have HX := Aside0.mk _hx
  have HN := Aside0.mk _hn
  have HC := Aside0.mk hcmp
  clear _h _hx _hn hcmp
  go_enter Try.func39, Try.ntmps39
  go_wp2
  go_loopw [8] (fun v8 wr => ∃ (i : Int), 1 ≤ i ∧ i ≤ (n : Int) ∧ v8 = .int .i64 i ∧ Aside0 (Own w0 wr (Sep.Item.row (Kd.int .i64) 3 (.slice (some ⟨g, 0, none⟩) n cap) (isTo c xs i.toNat) :: F))) (fun v8 _ => n - (intOf v8).toNat)
  case atStart => exact ⟨1, by omega, by omega, by first | rfl | simp [wrap64], HO⟩
  case round =>
    obtain ⟨i, hi1, hin, rfl, HO1⟩ := hrel
    clear HO
    have HO := HO1
    clear HO1
    by_cases c1 : i < (n : Int)
    · have c1b := decide_eq_true c1
      have hwi : wrap64 (i + 1) = i + 1 := by unfold wrap64; omega
      have hall := isTo_all c xs HX.out i.toNat (by have := HN.out; omega)
      have hlen := isTo_length c xs i.toNat
      obtain ⟨ys, hys⟩ : ∃ ys, ys = isTo c xs i.toNat := ⟨_, rfl⟩
      rw [← hys] at HO hall hlen
      have HA := Aside0.mk hall
      have HL := Aside0.mk (show ys.length = n by have := HN.out; omega)
      have HYS := Aside0.mk hys
      clear hall hlen hys
      go_wp2
      go_loopw [9] (fun v9 wr => ∃ (j : Int) (zs : List Int), 0 ≤ j ∧ j ≤ i ∧ v9 = .int .i64 j ∧ Aside0 (isSink c j.toNat zs = isSink c i.toNat ys) ∧ Aside0 (∀ y ∈ zs, Pc y) ∧ Aside0 (zs.length = n) ∧ Aside0 (Own w0 wr (Sep.Item.row (Kd.int .i64) 3 (.slice (some ⟨g, 0, none⟩) n cap) zs :: F))) (fun v9 _ => (intOf v9).toNat)
      case atStart => exact ⟨i, ys, by omega, Int.le_refl _, rfl, ⟨rfl⟩, HA, HL, HO⟩
      case round =>
        clear HO
        obtain ⟨j, zs, hj0, hji, rfl, HS, HZ, HZL, HO⟩ := hrel
        by_cases c2 : j > 0
        · have c2b := decide_eq_true c2
          obtain ⟨jp, hjp⟩ : ∃ jp : Int, jp = j - 1 := ⟨_, rfl⟩
          have hwj : wrap64 (j - 1) = jp := by unfold wrap64; omega
          have hst := isSink_step c zs j (by omega)
          rw [← hjp] at hst
          have HST := Aside0.mk hst
          have hzl := HZL.out
          have hp := HZ.out _ (rd_mem (xs := zs) (j := j) hj0 (by omega))
          have hq := HZ.out _ (rd_mem (xs := zs) (j := jp) (by omega) (by omega))
          have HP := Aside0.mk hp
          have HQ := Aside0.mk hq
          have HJP := Aside0.mk hjp
          have hjp0 : 0 ≤ jp ∧ jp < (n : Int) := by omega
          have p1 : (0 ≤ j) = True := eq_true hj0
          have p2 : (0 ≤ jp) = True := eq_true hjp0.1
          have q1 : (j < (n : Int)) = True := eq_true (by omega)
          have q2 : (jp < (n : Int)) = True := eq_true hjp0.2
          clear hst hzl hp hq hjp
          by_cases c3 : c (rd zs j) (rd zs jp) < 0
          · have c3b := decide_eq_true c3
            have hs := HST.out
            rw [if_pos c3] at hs
            have HS2 := Aside0.mk (hs.symm.trans HS.out)
            clear hs HST
            go_wp2
            have HD_4_0 := Aside0.mk (HO.out.drew)
            refine start_ (n := 17) (S := fun w' => w'.cell? ⟨g, j.toNat, none⟩ = some (.int .i64 (rd zs j)) ∧ w'.cell? ⟨g, jp.toNat, none⟩ = some (.int .i64 (rd zs jp))) (ds := []) #[false, false, false, false, false, false, false, false, false, false, false, false, false, false, false, false, false] (by kernel_rfl) rfl rfl ⟨(Sep.own_row_cell (0 : Int) HD_4_0.out 0 rfl j hj0 (by have := HZL.out; omega)).1, (Sep.own_row_cell (0 : Int) HD_4_0.out 0 rfl jp hjp0.1 (by have := HZL.out; omega)).1⟩ (fun hHeld => ?_)
            generalize wr.drew = wd_4_1 at HD_4_0 hHeld ⊢
            refine pure_ (i := 0) (N := some 18) (v := ?_) (a' := ?_) #[true, false, false, false, false, false, false, false, false, false, false, false, false, false, false, false, false] rfl rfl (by kernel_rfl) (fun _ _ _ h => h) (Or.inl ⟨by rfl, ?_⟩) ?_ ?_
            rotate_left
            · intro w'
              go_simp
              with_reducible rfl
            rotate_left
            · simp only [Act.put, List.setIfInBounds_toArray, List.set_cons_zero, List.set_cons_succ, i64_w, i32_w]
              rfl
            refine pure_ (i := 1) (N := some 19) (v := ?_) (a' := ?_) #[true, true, false, false, false, false, false, false, false, false, false, false, false, false, false, false, false] rfl rfl (by kernel_rfl) (fun _ _ _ h => h) (Or.inl ⟨by rfl, ?_⟩) ?_ ?_
            rotate_left
            · intro w'
              go_simp
              with_reducible rfl
            rotate_left
            · simp only [Act.put, List.setIfInBounds_toArray, List.set_cons_zero, List.set_cons_succ, i64_w, i32_w]
              rfl
            refine pure_ (i := 2) (N := some 20) (v := ?_) (a' := ?_) #[true, true, true, false, false, false, false, false, false, false, false, false, false, false, false, false, false] rfl rfl (by kernel_rfl) (fun _ _ _ h => h) (Or.inl ⟨by rfl, ?_⟩) ?_ ?_
            rotate_left
            · intro w'
              go_simp
              with_reducible rfl
            rotate_left
            · simp only [Act.put, List.setIfInBounds_toArray, List.set_cons_zero, List.set_cons_succ, i64_w, i32_w]
              rfl
            refine pure_ (i := 3) (N := some 21) (v := ?_) (a' := ?_) #[true, true, true, true, false, false, false, false, false, false, false, false, false, false, false, false, false] rfl rfl (by kernel_rfl) (fun _ _ _ h => h) (Or.inl ⟨by rfl, ?_⟩) ?_ ?_
            rotate_left
            · intro w'
              go_simp
              with_reducible rfl
            rotate_left
            · simp only [Act.put, List.setIfInBounds_toArray, List.set_cons_zero, List.set_cons_succ, i64_w, i32_w]
              rfl
            refine pure_ (i := 4) (N := some 22) (v := ?_) (a' := ?_) #[true, true, true, true, true, false, false, false, false, false, false, false, false, false, false, false, false] rfl rfl (by kernel_rfl) (fun _ _ _ h => h) (Or.inl ⟨by rfl, ?_⟩) ?_ ?_
            rotate_left
            · intro w'
              go_simp
              with_reducible rfl
            rotate_left
            · simp only [Act.put, List.setIfInBounds_toArray, List.set_cons_zero, List.set_cons_succ, i64_w, i32_w]
              rfl
            refine pure_ (i := 5) (N := some 23) (v := ?_) (a' := ?_) #[true, true, true, true, true, true, false, false, false, false, false, false, false, false, false, false, false] rfl rfl (by kernel_rfl) (fun _ _ _ h => h) (Or.inl ⟨by rfl, ?_⟩) ?_ ?_
            rotate_left
            · intro w'
              go_simp
              with_reducible rfl
            rotate_left
            · simp only [Act.put, List.setIfInBounds_toArray, List.set_cons_zero, List.set_cons_succ, i64_w, i32_w]
              rfl
            refine pure_ (i := 6) (N := some 24) (v := ?_) (a' := ?_) #[true, true, true, true, true, true, true, false, false, false, false, false, false, false, false, false, false] rfl rfl (by kernel_rfl) (fun _ _ _ h => h) (Or.inl ⟨by rfl, ?_⟩) ?_ ?_
            rotate_left
            · intro w'
              go_simp
              with_reducible rfl
            rotate_left
            · simp only [Act.put, List.setIfInBounds_toArray, List.set_cons_zero, List.set_cons_succ, i64_w, i32_w]
              rfl
            refine pure_ (i := 7) (N := some 25) (v := ?_) (a' := ?_) #[true, true, true, true, true, true, true, true, false, false, false, false, false, false, false, false, false] rfl rfl (by kernel_rfl) (fun _ _ _ h => h) (Or.inl ⟨by rfl, ?_⟩) ?_ ?_
            rotate_left
            · intro w'
              go_simp
              with_reducible rfl
            rotate_left
            · simp only [Act.put, List.setIfInBounds_toArray, List.set_cons_zero, List.set_cons_succ, i64_w, i32_w]
              rfl
            refine pure_ (i := 9) (N := some 27) (v := ?_) (a' := ?_) #[true, true, true, true, true, true, true, true, false, true, false, false, false, false, false, false, false] rfl rfl (by kernel_rfl) (fun _ _ _ h => h) (Or.inl ⟨by rfl, ?_⟩) ?_ ?_
            rotate_left
            · intro w'
              go_simp
              with_reducible rfl
            rotate_left
            · simp only [Act.put, List.setIfInBounds_toArray, List.set_cons_zero, List.set_cons_succ, i64_w, i32_w]
              rfl
            refine pure_ (i := 10) (N := some 28) (v := ?_) (a' := ?_) #[true, true, true, true, true, true, true, true, false, true, true, false, false, false, false, false, false] rfl rfl (by kernel_rfl) (fun _ _ _ h => h) (Or.inl ⟨by rfl, ?_⟩) ?_ ?_
            rotate_left
            · intro w'
              go_simp
              with_reducible rfl
            rotate_left
            · simp only [Act.put, List.setIfInBounds_toArray, List.set_cons_zero, List.set_cons_succ, i64_w, i32_w]
              rfl
            refine pure_ (i := 11) (N := some 29) (v := ?_) (a' := ?_) #[true, true, true, true, true, true, true, true, false, true, true, true, false, false, false, false, false] rfl rfl (by kernel_rfl) (fun _ _ _ h => h) (Or.inl ⟨by rfl, ?_⟩) ?_ ?_
            rotate_left
            · intro w'
              go_simp
              with_reducible rfl
            rotate_left
            · simp only [Act.put, List.setIfInBounds_toArray, List.set_cons_zero, List.set_cons_succ, i64_w, i32_w]
              rfl
            refine pure_ (i := 12) (N := some 30) (v := ?_) (a' := ?_) #[true, true, true, true, true, true, true, true, false, true, true, true, true, false, false, false, false] rfl rfl (by kernel_rfl) (fun _ _ _ h => h) (Or.inl ⟨by rfl, ?_⟩) ?_ ?_
            rotate_left
            · intro w'
              go_simp
              with_reducible rfl
            rotate_left
            · simp only [Act.put, List.setIfInBounds_toArray, List.set_cons_zero, List.set_cons_succ, i64_w, i32_w]
              rfl
            refine take_ (i := 8) (N := some 26) (v := ?_) (a' := ?_) #[true, true, true, true, true, true, true, true, true, true, true, true, true, false, false, false, false] rfl rfl (by kernel_rfl) (fun _ _ _ h => h) (Or.inl ⟨by rfl, ?_⟩) hHeld ?_ ?_
            rotate_left
            · rintro w' ⟨s0, s1⟩
              go_simp
              with_reducible rfl
            rotate_left
            · simp only [Act.put, List.setIfInBounds_toArray, List.set_cons_zero, List.set_cons_succ, i64_w, i32_w]
              rfl
            refine take_ (i := 13) (N := some 31) (v := ?_) (a' := ?_) #[true, true, true, true, true, true, true, true, true, true, true, true, true, true, false, false, false] rfl rfl (by kernel_rfl) (fun _ _ _ h => h) (Or.inl ⟨by rfl, ?_⟩) hHeld ?_ ?_
            rotate_left
            · rintro w' ⟨s0, s1⟩
              go_simp
              with_reducible rfl
            rotate_left
            · simp only [Act.put, List.setIfInBounds_toArray, List.set_cons_zero, List.set_cons_succ, i64_w, i32_w]
              rfl
            refine one_ (i := 14) (N := some 32) #[true, true, true, true, true, true, true, true, true, true, true, true, true, true, true, false, false] rfl rfl (by kernel_rfl) (by decide) (fun K hK => ?_)
            refine Sep.goesC_ (f := fv) hfn hnm hbd (#[.int .i64 (rd zs j), .int .i64 (rd zs jp)] ++ caps) (by rfl) rfl rfl rfl (by (try simp only [List.map_toArray, List.map_cons, List.map_nil]); first | done | rfl) ?_
            refine (HC.out zs _ _ _ HD_4_0.out HP.out HQ.out).mono ?_
            rintro e w_1 ⟨rfl, ho⟩
            refine ⟨_, rfl, ?_⟩
            have HO_1 := Aside0.mk ho
            clear ho
            refine hK.out _ _ ⟨(Sep.own_row_cell (0 : Int) HO_1.out 0 rfl j hj0 (by have := HZL.out; omega)).1, (Sep.own_row_cell (0 : Int) HO_1.out 0 rfl jp hjp0.1 (by have := HZL.out; omega)).1⟩ (fun hHeld => ?_)
            clear hK K
            refine norm_ (a' := ?_) ?_ ?_
            rotate_left
            · show Act.put _ (some 32) _ = _
              simp only [Act.put, List.setIfInBounds_toArray, List.set_cons_zero, List.set_cons_succ, i64_w, i32_w]
              rfl
            refine pure_ (i := 15) (N := some 33) (v := ?_) (a' := ?_) #[true, true, true, true, true, true, true, true, true, true, true, true, true, true, true, true, false] rfl rfl (by kernel_rfl) (fun _ _ _ h => h) (Or.inl ⟨by rfl, ?_⟩) ?_ ?_
            rotate_left
            · intro w'
              go_simp
              with_reducible rfl
            rotate_left
            · simp only [Act.put, List.setIfInBounds_toArray, List.set_cons_zero, List.set_cons_succ, i64_w, i32_w]
              rfl
            refine pure_ (i := 16) (N := some 34) (v := ?_) (a' := ?_) #[true, true, true, true, true, true, true, true, true, true, true, true, true, true, true, true, true] rfl rfl (by kernel_rfl) (fun _ _ _ h => h) (Or.inl ⟨by rfl, ?_⟩) ?_ ?_
            rotate_left
            · intro w'
              go_simp
              with_reducible rfl
            rotate_left
            · simp only [Act.put, List.setIfInBounds_toArray, List.set_cons_zero, List.set_cons_succ, i64_w, i32_w]
              rfl
            refine done_ (by kernel_rfl) ?_
            go_wp2
            have HD_6_1 := Aside0.mk (HO_1.out.drew)
            refine start_ (n := 18) (S := fun w' => w'.cell? ⟨g, jp.toNat, none⟩ = some (.int .i64 (rd zs jp)) ∧ w'.cell? ⟨g, j.toNat, none⟩ = some (.int .i64 (rd zs j))) (ds := [15, 17]) #[false, false, false, false, false, false, false, false, false, false, false, false, false, false, false, false, false, false] (by kernel_rfl) rfl rfl ⟨(Sep.own_row_cell (0 : Int) HD_6_1.out 0 rfl jp hjp0.1 (by have := HZL.out; omega)).1, (Sep.own_row_cell (0 : Int) HD_6_1.out 0 rfl j hj0 (by have := HZL.out; omega)).1⟩ (fun hHeld => ?_)
            generalize w_1.drew = wd_6_2 at HD_6_1 hHeld ⊢
            refine pure_ (i := 0) (N := some 37) (v := ?_) (a' := ?_) #[true, false, false, false, false, false, false, false, false, false, false, false, false, false, false, false, false, false] rfl rfl (by kernel_rfl) (fun _ _ _ h => h) (Or.inl ⟨by rfl, ?_⟩) ?_ ?_
            rotate_left
            · intro w'
              go_simp
              with_reducible rfl
            rotate_left
            · simp only [Act.put, List.setIfInBounds_toArray, List.set_cons_zero, List.set_cons_succ, i64_w, i32_w]
              rfl
            refine pure_ (i := 1) (N := some 38) (v := ?_) (a' := ?_) #[true, true, false, false, false, false, false, false, false, false, false, false, false, false, false, false, false, false] rfl rfl (by kernel_rfl) (fun _ _ _ h => h) (Or.inl ⟨by rfl, ?_⟩) ?_ ?_
            rotate_left
            · intro w'
              go_simp
              with_reducible rfl
            rotate_left
            · simp only [Act.put, List.setIfInBounds_toArray, List.set_cons_zero, List.set_cons_succ, i64_w, i32_w]
              rfl
            refine pure_ (i := 2) (N := some 39) (v := ?_) (a' := ?_) #[true, true, true, false, false, false, false, false, false, false, false, false, false, false, false, false, false, false] rfl rfl (by kernel_rfl) (fun _ _ _ h => h) (Or.inl ⟨by rfl, ?_⟩) ?_ ?_
            rotate_left
            · intro w'
              go_simp
              with_reducible rfl
            rotate_left
            · simp only [Act.put, List.setIfInBounds_toArray, List.set_cons_zero, List.set_cons_succ, i64_w, i32_w]
              rfl
            refine pure_ (i := 3) (N := some 40) (v := ?_) (a' := ?_) #[true, true, true, true, false, false, false, false, false, false, false, false, false, false, false, false, false, false] rfl rfl (by kernel_rfl) (fun _ _ _ h => h) (Or.inl ⟨by rfl, ?_⟩) ?_ ?_
            rotate_left
            · intro w'
              go_simp
              with_reducible rfl
            rotate_left
            · simp only [Act.put, List.setIfInBounds_toArray, List.set_cons_zero, List.set_cons_succ, i64_w, i32_w]
              rfl
            refine pure_ (i := 4) (N := some 41) (v := ?_) (a' := ?_) #[true, true, true, true, true, false, false, false, false, false, false, false, false, false, false, false, false, false] rfl rfl (by kernel_rfl) (fun _ _ _ h => h) (Or.inl ⟨by rfl, ?_⟩) ?_ ?_
            rotate_left
            · intro w'
              go_simp
              with_reducible rfl
            rotate_left
            · simp only [Act.put, List.setIfInBounds_toArray, List.set_cons_zero, List.set_cons_succ, i64_w, i32_w]
              rfl
            refine pure_ (i := 5) (N := some 42) (v := ?_) (a' := ?_) #[true, true, true, true, true, true, false, false, false, false, false, false, false, false, false, false, false, false] rfl rfl (by kernel_rfl) (fun _ _ _ h => h) (Or.inl ⟨by rfl, ?_⟩) ?_ ?_
            rotate_left
            · intro w'
              go_simp
              with_reducible rfl
            rotate_left
            · simp only [Act.put, List.setIfInBounds_toArray, List.set_cons_zero, List.set_cons_succ, i64_w, i32_w]
              rfl
            refine pure_ (i := 6) (N := some 43) (v := ?_) (a' := ?_) #[true, true, true, true, true, true, true, false, false, false, false, false, false, false, false, false, false, false] rfl rfl (by kernel_rfl) (fun _ _ _ h => h) (Or.inl ⟨by rfl, ?_⟩) ?_ ?_
            rotate_left
            · intro w'
              go_simp
              with_reducible rfl
            rotate_left
            · simp only [Act.put, List.setIfInBounds_toArray, List.set_cons_zero, List.set_cons_succ, i64_w, i32_w]
              rfl
            refine pure_ (i := 7) (N := some 44) (v := ?_) (a' := ?_) #[true, true, true, true, true, true, true, true, false, false, false, false, false, false, false, false, false, false] rfl rfl (by kernel_rfl) (fun _ _ _ h => h) (Or.inl ⟨by rfl, ?_⟩) ?_ ?_
            rotate_left
            · intro w'
              go_simp
              with_reducible rfl
            rotate_left
            · simp only [Act.put, List.setIfInBounds_toArray, List.set_cons_zero, List.set_cons_succ, i64_w, i32_w]
              rfl
            refine pure_ (i := 8) (N := some 45) (v := ?_) (a' := ?_) #[true, true, true, true, true, true, true, true, true, false, false, false, false, false, false, false, false, false] rfl rfl (by kernel_rfl) (fun _ _ _ h => h) (Or.inl ⟨by rfl, ?_⟩) ?_ ?_
            rotate_left
            · intro w'
              go_simp
              with_reducible rfl
            rotate_left
            · simp only [Act.put, List.setIfInBounds_toArray, List.set_cons_zero, List.set_cons_succ, i64_w, i32_w]
              rfl
            refine pure_ (i := 10) (N := some 47) (v := ?_) (a' := ?_) #[true, true, true, true, true, true, true, true, true, false, true, false, false, false, false, false, false, false] rfl rfl (by kernel_rfl) (fun _ _ _ h => h) (Or.inl ⟨by rfl, ?_⟩) ?_ ?_
            rotate_left
            · intro w'
              go_simp
              with_reducible rfl
            rotate_left
            · simp only [Act.put, List.setIfInBounds_toArray, List.set_cons_zero, List.set_cons_succ, i64_w, i32_w]
              rfl
            refine pure_ (i := 11) (N := some 48) (v := ?_) (a' := ?_) #[true, true, true, true, true, true, true, true, true, false, true, true, false, false, false, false, false, false] rfl rfl (by kernel_rfl) (fun _ _ _ h => h) (Or.inl ⟨by rfl, ?_⟩) ?_ ?_
            rotate_left
            · intro w'
              go_simp
              with_reducible rfl
            rotate_left
            · simp only [Act.put, List.setIfInBounds_toArray, List.set_cons_zero, List.set_cons_succ, i64_w, i32_w]
              rfl
            refine pure_ (i := 12) (N := some 49) (v := ?_) (a' := ?_) #[true, true, true, true, true, true, true, true, true, false, true, true, true, false, false, false, false, false] rfl rfl (by kernel_rfl) (fun _ _ _ h => h) (Or.inl ⟨by rfl, ?_⟩) ?_ ?_
            rotate_left
            · intro w'
              go_simp
              with_reducible rfl
            rotate_left
            · simp only [Act.put, List.setIfInBounds_toArray, List.set_cons_zero, List.set_cons_succ, i64_w, i32_w]
              rfl
            refine take_ (i := 9) (N := some 46) (v := ?_) (a' := ?_) #[true, true, true, true, true, true, true, true, true, true, true, true, true, false, false, false, false, false] rfl rfl (by kernel_rfl) (fun _ _ _ h => h) (Or.inl ⟨by rfl, ?_⟩) hHeld ?_ ?_
            rotate_left
            · rintro w' ⟨s0, s1⟩
              go_simp
              with_reducible rfl
            rotate_left
            · simp only [Act.put, List.setIfInBounds_toArray, List.set_cons_zero, List.set_cons_succ, i64_w, i32_w]
              rfl
            refine take_ (i := 13) (N := some 50) (v := ?_) (a' := ?_) #[true, true, true, true, true, true, true, true, true, true, true, true, true, true, false, false, false, false] rfl rfl (by kernel_rfl) (fun _ _ _ h => h) (Or.inl ⟨by rfl, ?_⟩) hHeld ?_ ?_
            rotate_left
            · rintro w' ⟨s0, s1⟩
              go_simp
              with_reducible rfl
            rotate_left
            · simp only [Act.put, List.setIfInBounds_toArray, List.set_cons_zero, List.set_cons_succ, i64_w, i32_w]
              rfl
            refine pure_ (i := 14) (N := some 51) (v := ?_) (a' := ?_) #[true, true, true, true, true, true, true, true, true, true, true, true, true, true, true, false, false, false] rfl rfl (by kernel_rfl) (fun _ _ _ h => h) (Or.inl ⟨by rfl, ?_⟩) ?_ ?_
            rotate_left
            · intro w'
              go_simp
              with_reducible rfl
            rotate_left
            · simp only [Act.put, List.setIfInBounds_toArray, List.set_cons_zero, List.set_cons_succ, i64_w, i32_w]
              rfl
            refine last_ (i := 15) (N := none) #[true, true, true, true, true, true, true, true, true, true, true, true, true, true, true, true, false, false] rfl rfl (by kernel_rfl) (by decide) (fun K hK => ?_)
            obtain ⟨hbs, hbf⟩ := Sep.own_row_cell (0 : Int) HD_6_1.out 0 rfl j hj0 (by have := HZL.out; omega)
            refine skip_ (w1 := ?_) (by rfl) rfl ?_ ?_
            rotate_left
            · go_simp
              rfl
            have HD_6_1a := Aside0.mk (Sep.own_put HD_6_1.out 0 rfl j (rd zs jp))
            clear hbs hbf
            refine hK.out _ _ ?_
            clear hK K
            refine pure_ (i := 16) (N := some 52) (v := ?_) (a' := ?_) #[true, true, true, true, true, true, true, true, true, true, true, true, true, true, true, true, true, false] rfl rfl (by kernel_rfl) (fun _ _ _ h => h) (Or.inl ⟨by rfl, ?_⟩) ?_ ?_
            rotate_left
            · intro w'
              go_simp
              with_reducible rfl
            rotate_left
            · simp only [Act.put, List.setIfInBounds_toArray, List.set_cons_zero, List.set_cons_succ, i64_w, i32_w]
              rfl
            refine last_ (i := 17) (N := none) #[true, true, true, true, true, true, true, true, true, true, true, true, true, true, true, true, true, true] rfl rfl (by kernel_rfl) (by decide) (fun K hK => ?_)
            obtain ⟨hbs, hbf⟩ := Sep.own_row_cell (0 : Int) HD_6_1a.out 0 rfl jp hjp0.1 (by have := HZL.out; rw [List.length_set]; omega)
            refine skip_ (w1 := ?_) (by rfl) rfl ?_ ?_
            rotate_left
            · go_simp
              rfl
            have HD_6_1ab := Aside0.mk (Sep.own_put HD_6_1a.out 0 rfl jp (rd zs j))
            clear hbs hbf
            refine hK.out _ _ ?_
            clear hK K
            refine done_ (by kernel_rfl) ?_
            go_wp2
            go_roundw
            case measure => have := HJP.out; simp only [intOf, hwj]; omega
            case rel => exact ⟨jp, Sep.swp zs j, hjp0.1, by have := HJP.out; omega, by first | rfl | rw [hwj] | rw [HJP.out], HS2, ⟨swp_all HZ.out (by omega) (by have := HZL.out; omega)⟩, ⟨by rw [swp_length]; exact HZL.out⟩, ⟨by rw [show Sep.swp zs j = (zs.set j.toNat (rd zs jp)).set jp.toNat (rd zs j) by unfold Sep.swp; rw [HJP.out]]; exact HD_6_1ab.out⟩⟩
          · have c3b := decide_eq_false c3
            have hs := HST.out
            rw [if_neg c3] at hs
            have HS2 := Aside0.mk (hs.symm.trans HS.out)
            clear hs HST
            go_wp2
            have HD_4_0 := Aside0.mk (HO.out.drew)
            refine start_ (n := 17) (S := fun w' => w'.cell? ⟨g, j.toNat, none⟩ = some (.int .i64 (rd zs j)) ∧ w'.cell? ⟨g, jp.toNat, none⟩ = some (.int .i64 (rd zs jp))) (ds := []) #[false, false, false, false, false, false, false, false, false, false, false, false, false, false, false, false, false] (by kernel_rfl) rfl rfl ⟨(Sep.own_row_cell (0 : Int) HD_4_0.out 0 rfl j hj0 (by have := HZL.out; omega)).1, (Sep.own_row_cell (0 : Int) HD_4_0.out 0 rfl jp hjp0.1 (by have := HZL.out; omega)).1⟩ (fun hHeld => ?_)
            generalize wr.drew = wd_4_1 at HD_4_0 hHeld ⊢
            refine pure_ (i := 0) (N := some 18) (v := ?_) (a' := ?_) #[true, false, false, false, false, false, false, false, false, false, false, false, false, false, false, false, false] rfl rfl (by kernel_rfl) (fun _ _ _ h => h) (Or.inl ⟨by rfl, ?_⟩) ?_ ?_
            rotate_left
            · intro w'
              go_simp
              with_reducible rfl
            rotate_left
            · simp only [Act.put, List.setIfInBounds_toArray, List.set_cons_zero, List.set_cons_succ, i64_w, i32_w]
              rfl
            refine pure_ (i := 1) (N := some 19) (v := ?_) (a' := ?_) #[true, true, false, false, false, false, false, false, false, false, false, false, false, false, false, false, false] rfl rfl (by kernel_rfl) (fun _ _ _ h => h) (Or.inl ⟨by rfl, ?_⟩) ?_ ?_
            rotate_left
            · intro w'
              go_simp
              with_reducible rfl
            rotate_left
            · simp only [Act.put, List.setIfInBounds_toArray, List.set_cons_zero, List.set_cons_succ, i64_w, i32_w]
              rfl
            refine pure_ (i := 2) (N := some 20) (v := ?_) (a' := ?_) #[true, true, true, false, false, false, false, false, false, false, false, false, false, false, false, false, false] rfl rfl (by kernel_rfl) (fun _ _ _ h => h) (Or.inl ⟨by rfl, ?_⟩) ?_ ?_
            rotate_left
            · intro w'
              go_simp
              with_reducible rfl
            rotate_left
            · simp only [Act.put, List.setIfInBounds_toArray, List.set_cons_zero, List.set_cons_succ, i64_w, i32_w]
              rfl
            refine pure_ (i := 3) (N := some 21) (v := ?_) (a' := ?_) #[true, true, true, true, false, false, false, false, false, false, false, false, false, false, false, false, false] rfl rfl (by kernel_rfl) (fun _ _ _ h => h) (Or.inl ⟨by rfl, ?_⟩) ?_ ?_
            rotate_left
            · intro w'
              go_simp
              with_reducible rfl
            rotate_left
            · simp only [Act.put, List.setIfInBounds_toArray, List.set_cons_zero, List.set_cons_succ, i64_w, i32_w]
              rfl
            refine pure_ (i := 4) (N := some 22) (v := ?_) (a' := ?_) #[true, true, true, true, true, false, false, false, false, false, false, false, false, false, false, false, false] rfl rfl (by kernel_rfl) (fun _ _ _ h => h) (Or.inl ⟨by rfl, ?_⟩) ?_ ?_
            rotate_left
            · intro w'
              go_simp
              with_reducible rfl
            rotate_left
            · simp only [Act.put, List.setIfInBounds_toArray, List.set_cons_zero, List.set_cons_succ, i64_w, i32_w]
              rfl
            refine pure_ (i := 5) (N := some 23) (v := ?_) (a' := ?_) #[true, true, true, true, true, true, false, false, false, false, false, false, false, false, false, false, false] rfl rfl (by kernel_rfl) (fun _ _ _ h => h) (Or.inl ⟨by rfl, ?_⟩) ?_ ?_
            rotate_left
            · intro w'
              go_simp
              with_reducible rfl
            rotate_left
            · simp only [Act.put, List.setIfInBounds_toArray, List.set_cons_zero, List.set_cons_succ, i64_w, i32_w]
              rfl
            refine pure_ (i := 6) (N := some 24) (v := ?_) (a' := ?_) #[true, true, true, true, true, true, true, false, false, false, false, false, false, false, false, false, false] rfl rfl (by kernel_rfl) (fun _ _ _ h => h) (Or.inl ⟨by rfl, ?_⟩) ?_ ?_
            rotate_left
            · intro w'
              go_simp
              with_reducible rfl
            rotate_left
            · simp only [Act.put, List.setIfInBounds_toArray, List.set_cons_zero, List.set_cons_succ, i64_w, i32_w]
              rfl
            refine pure_ (i := 7) (N := some 25) (v := ?_) (a' := ?_) #[true, true, true, true, true, true, true, true, false, false, false, false, false, false, false, false, false] rfl rfl (by kernel_rfl) (fun _ _ _ h => h) (Or.inl ⟨by rfl, ?_⟩) ?_ ?_
            rotate_left
            · intro w'
              go_simp
              with_reducible rfl
            rotate_left
            · simp only [Act.put, List.setIfInBounds_toArray, List.set_cons_zero, List.set_cons_succ, i64_w, i32_w]
              rfl
            refine pure_ (i := 9) (N := some 27) (v := ?_) (a' := ?_) #[true, true, true, true, true, true, true, true, false, true, false, false, false, false, false, false, false] rfl rfl (by kernel_rfl) (fun _ _ _ h => h) (Or.inl ⟨by rfl, ?_⟩) ?_ ?_
            rotate_left
            · intro w'
              go_simp
              with_reducible rfl
            rotate_left
            · simp only [Act.put, List.setIfInBounds_toArray, List.set_cons_zero, List.set_cons_succ, i64_w, i32_w]
              rfl
            refine pure_ (i := 10) (N := some 28) (v := ?_) (a' := ?_) #[true, true, true, true, true, true, true, true, false, true, true, false, false, false, false, false, false] rfl rfl (by kernel_rfl) (fun _ _ _ h => h) (Or.inl ⟨by rfl, ?_⟩) ?_ ?_
            rotate_left
            · intro w'
              go_simp
              with_reducible rfl
            rotate_left
            · simp only [Act.put, List.setIfInBounds_toArray, List.set_cons_zero, List.set_cons_succ, i64_w, i32_w]
              rfl
            refine pure_ (i := 11) (N := some 29) (v := ?_) (a' := ?_) #[true, true, true, true, true, true, true, true, false, true, true, true, false, false, false, false, false] rfl rfl (by kernel_rfl) (fun _ _ _ h => h) (Or.inl ⟨by rfl, ?_⟩) ?_ ?_
            rotate_left
            · intro w'
              go_simp
              with_reducible rfl
            rotate_left
            · simp only [Act.put, List.setIfInBounds_toArray, List.set_cons_zero, List.set_cons_succ, i64_w, i32_w]
              rfl
            refine pure_ (i := 12) (N := some 30) (v := ?_) (a' := ?_) #[true, true, true, true, true, true, true, true, false, true, true, true, true, false, false, false, false] rfl rfl (by kernel_rfl) (fun _ _ _ h => h) (Or.inl ⟨by rfl, ?_⟩) ?_ ?_
            rotate_left
            · intro w'
              go_simp
              with_reducible rfl
            rotate_left
            · simp only [Act.put, List.setIfInBounds_toArray, List.set_cons_zero, List.set_cons_succ, i64_w, i32_w]
              rfl
            refine take_ (i := 8) (N := some 26) (v := ?_) (a' := ?_) #[true, true, true, true, true, true, true, true, true, true, true, true, true, false, false, false, false] rfl rfl (by kernel_rfl) (fun _ _ _ h => h) (Or.inl ⟨by rfl, ?_⟩) hHeld ?_ ?_
            rotate_left
            · rintro w' ⟨s0, s1⟩
              go_simp
              with_reducible rfl
            rotate_left
            · simp only [Act.put, List.setIfInBounds_toArray, List.set_cons_zero, List.set_cons_succ, i64_w, i32_w]
              rfl
            refine take_ (i := 13) (N := some 31) (v := ?_) (a' := ?_) #[true, true, true, true, true, true, true, true, true, true, true, true, true, true, false, false, false] rfl rfl (by kernel_rfl) (fun _ _ _ h => h) (Or.inl ⟨by rfl, ?_⟩) hHeld ?_ ?_
            rotate_left
            · rintro w' ⟨s0, s1⟩
              go_simp
              with_reducible rfl
            rotate_left
            · simp only [Act.put, List.setIfInBounds_toArray, List.set_cons_zero, List.set_cons_succ, i64_w, i32_w]
              rfl
            refine one_ (i := 14) (N := some 32) #[true, true, true, true, true, true, true, true, true, true, true, true, true, true, true, false, false] rfl rfl (by kernel_rfl) (by decide) (fun K hK => ?_)
            refine Sep.goesC_ (f := fv) hfn hnm hbd (#[.int .i64 (rd zs j), .int .i64 (rd zs jp)] ++ caps) (by rfl) rfl rfl rfl (by (try simp only [List.map_toArray, List.map_cons, List.map_nil]); first | done | rfl) ?_
            refine (HC.out zs _ _ _ HD_4_0.out HP.out HQ.out).mono ?_
            rintro e w_1 ⟨rfl, ho⟩
            refine ⟨_, rfl, ?_⟩
            have HO_1 := Aside0.mk ho
            clear ho
            refine hK.out _ _ ⟨(Sep.own_row_cell (0 : Int) HO_1.out 0 rfl j hj0 (by have := HZL.out; omega)).1, (Sep.own_row_cell (0 : Int) HO_1.out 0 rfl jp hjp0.1 (by have := HZL.out; omega)).1⟩ (fun hHeld => ?_)
            clear hK K
            refine norm_ (a' := ?_) ?_ ?_
            rotate_left
            · show Act.put _ (some 32) _ = _
              simp only [Act.put, List.setIfInBounds_toArray, List.set_cons_zero, List.set_cons_succ, i64_w, i32_w]
              rfl
            refine pure_ (i := 15) (N := some 33) (v := ?_) (a' := ?_) #[true, true, true, true, true, true, true, true, true, true, true, true, true, true, true, true, false] rfl rfl (by kernel_rfl) (fun _ _ _ h => h) (Or.inl ⟨by rfl, ?_⟩) ?_ ?_
            rotate_left
            · intro w'
              go_simp
              with_reducible rfl
            rotate_left
            · simp only [Act.put, List.setIfInBounds_toArray, List.set_cons_zero, List.set_cons_succ, i64_w, i32_w]
              rfl
            refine pure_ (i := 16) (N := some 34) (v := ?_) (a' := ?_) #[true, true, true, true, true, true, true, true, true, true, true, true, true, true, true, true, true] rfl rfl (by kernel_rfl) (fun _ _ _ h => h) (Or.inl ⟨by rfl, ?_⟩) ?_ ?_
            rotate_left
            · intro w'
              go_simp
              with_reducible rfl
            rotate_left
            · simp only [Act.put, List.setIfInBounds_toArray, List.set_cons_zero, List.set_cons_succ, i64_w, i32_w]
              rfl
            refine done_ (by kernel_rfl) ?_
            go_wp2
            go_roundw
            case measure => simp only [intOf, hwi]; omega
            case rel => exact ⟨i + 1, by omega, by omega, by first | rfl | rw [hwi], ⟨by rw [isTo_step c xs i (by omega), ← HYS.out, ← HS2.out]; exact HO_1.out⟩⟩
        · have c2b := decide_eq_false c2
          obtain rfl : j = 0 := by omega
          have HS2 := Aside0.mk (show zs = isSink c i.toNat ys from HS.out)
          go_wp2
          have HD_4_0 := Aside0.mk (HO.out.drew)
          refine start_ (n := 17) (S := fun w' => True) (ds := []) #[false, false, false, false, false, false, false, false, false, false, false, false, false, false, false, false, false] (by kernel_rfl) rfl rfl trivial (fun hHeld => ?_)
          generalize wr.drew = wd_4_1 at HD_4_0 ⊢
          refine pure_ (i := 0) (N := some 18) (v := ?_) (a' := ?_) #[true, false, false, false, false, false, false, false, false, false, false, false, false, false, false, false, false] rfl rfl (by kernel_rfl) (fun _ _ _ h => h) (Or.inl ⟨by rfl, ?_⟩) ?_ ?_
          rotate_left
          · intro w'
            go_simp
            with_reducible rfl
          rotate_left
          · simp only [Act.put, List.setIfInBounds_toArray, List.set_cons_zero, List.set_cons_succ, i64_w, i32_w]
            rfl
          refine pure_ (i := 1) (N := some 19) (v := ?_) (a' := ?_) #[true, true, false, false, false, false, false, false, false, false, false, false, false, false, false, false, false] rfl rfl (by kernel_rfl) (fun _ _ _ h => h) (Or.inl ⟨by rfl, ?_⟩) ?_ ?_
          rotate_left
          · intro w'
            go_simp
            with_reducible rfl
          rotate_left
          · simp only [Act.put, List.setIfInBounds_toArray, List.set_cons_zero, List.set_cons_succ, i64_w, i32_w]
            rfl
          refine pure_ (i := 2) (N := some 20) (v := ?_) (a' := ?_) #[true, true, true, false, false, false, false, false, false, false, false, false, false, false, false, false, false] rfl rfl (by kernel_rfl) (fun _ _ _ h => h) (Or.inl ⟨by rfl, ?_⟩) ?_ ?_
          rotate_left
          · intro w'
            go_simp
            with_reducible rfl
          rotate_left
          · simp only [Act.put, List.setIfInBounds_toArray, List.set_cons_zero, List.set_cons_succ, i64_w, i32_w]
            rfl
          refine pure_ (i := 3) (N := some 21) (v := ?_) (a' := ?_) #[true, true, true, true, false, false, false, false, false, false, false, false, false, false, false, false, false] rfl rfl (by kernel_rfl) (fun _ _ _ h => h) (Or.inl ⟨by rfl, ?_⟩) ?_ ?_
          rotate_left
          · intro w'
            go_simp
            with_reducible rfl
          rotate_left
          · simp only [Act.put, List.setIfInBounds_toArray, List.set_cons_zero, List.set_cons_succ, i64_w, i32_w]
            rfl
          refine pure_ (i := 4) (N := some 22) (v := undef) (a' := ?_) #[true, true, true, true, true, false, false, false, false, false, false, false, false, false, false, false, false] rfl rfl (by kernel_rfl) (fun _ _ _ h => h) (Or.inr ⟨by rfl, rfl⟩) ?_ ?_
          rotate_left
          · simp only [Act.put, List.setIfInBounds_toArray, List.set_cons_zero, List.set_cons_succ, i64_w, i32_w]
            rfl
          refine pure_ (i := 5) (N := some 23) (v := undef) (a' := ?_) #[true, true, true, true, true, true, false, false, false, false, false, false, false, false, false, false, false] rfl rfl (by kernel_rfl) (fun _ _ _ h => h) (Or.inr ⟨by rfl, rfl⟩) ?_ ?_
          rotate_left
          · simp only [Act.put, List.setIfInBounds_toArray, List.set_cons_zero, List.set_cons_succ, i64_w, i32_w]
            rfl
          refine pure_ (i := 6) (N := some 24) (v := undef) (a' := ?_) #[true, true, true, true, true, true, true, false, false, false, false, false, false, false, false, false, false] rfl rfl (by kernel_rfl) (fun _ _ _ h => h) (Or.inr ⟨by rfl, rfl⟩) ?_ ?_
          rotate_left
          · simp only [Act.put, List.setIfInBounds_toArray, List.set_cons_zero, List.set_cons_succ, i64_w, i32_w]
            rfl
          refine pure_ (i := 7) (N := some 25) (v := undef) (a' := ?_) #[true, true, true, true, true, true, true, true, false, false, false, false, false, false, false, false, false] rfl rfl (by kernel_rfl) (fun _ _ _ h => h) (Or.inr ⟨by rfl, rfl⟩) ?_ ?_
          rotate_left
          · simp only [Act.put, List.setIfInBounds_toArray, List.set_cons_zero, List.set_cons_succ, i64_w, i32_w]
            rfl
          refine pure_ (i := 8) (N := some 26) (v := undef) (a' := ?_) #[true, true, true, true, true, true, true, true, true, false, false, false, false, false, false, false, false] rfl rfl (by kernel_rfl) (fun _ _ _ h => h) (Or.inr ⟨by rfl, rfl⟩) ?_ ?_
          rotate_left
          · simp only [Act.put, List.setIfInBounds_toArray, List.set_cons_zero, List.set_cons_succ, i64_w, i32_w]
            rfl
          refine pure_ (i := 9) (N := some 27) (v := undef) (a' := ?_) #[true, true, true, true, true, true, true, true, true, true, false, false, false, false, false, false, false] rfl rfl (by kernel_rfl) (fun _ _ _ h => h) (Or.inr ⟨by rfl, rfl⟩) ?_ ?_
          rotate_left
          · simp only [Act.put, List.setIfInBounds_toArray, List.set_cons_zero, List.set_cons_succ, i64_w, i32_w]
            rfl
          refine pure_ (i := 10) (N := some 28) (v := undef) (a' := ?_) #[true, true, true, true, true, true, true, true, true, true, true, false, false, false, false, false, false] rfl rfl (by kernel_rfl) (fun _ _ _ h => h) (Or.inr ⟨by rfl, rfl⟩) ?_ ?_
          rotate_left
          · simp only [Act.put, List.setIfInBounds_toArray, List.set_cons_zero, List.set_cons_succ, i64_w, i32_w]
            rfl
          refine pure_ (i := 11) (N := some 29) (v := undef) (a' := ?_) #[true, true, true, true, true, true, true, true, true, true, true, true, false, false, false, false, false] rfl rfl (by kernel_rfl) (fun _ _ _ h => h) (Or.inr ⟨by rfl, rfl⟩) ?_ ?_
          rotate_left
          · simp only [Act.put, List.setIfInBounds_toArray, List.set_cons_zero, List.set_cons_succ, i64_w, i32_w]
            rfl
          refine pure_ (i := 12) (N := some 30) (v := undef) (a' := ?_) #[true, true, true, true, true, true, true, true, true, true, true, true, true, false, false, false, false] rfl rfl (by kernel_rfl) (fun _ _ _ h => h) (Or.inr ⟨by rfl, rfl⟩) ?_ ?_
          rotate_left
          · simp only [Act.put, List.setIfInBounds_toArray, List.set_cons_zero, List.set_cons_succ, i64_w, i32_w]
            rfl
          refine pure_ (i := 13) (N := some 31) (v := undef) (a' := ?_) #[true, true, true, true, true, true, true, true, true, true, true, true, true, true, false, false, false] rfl rfl (by kernel_rfl) (fun _ _ _ h => h) (Or.inr ⟨by rfl, rfl⟩) ?_ ?_
          rotate_left
          · simp only [Act.put, List.setIfInBounds_toArray, List.set_cons_zero, List.set_cons_succ, i64_w, i32_w]
            rfl
          refine pure_ (i := 14) (N := some 32) (v := undef) (a' := ?_) #[true, true, true, true, true, true, true, true, true, true, true, true, true, true, true, false, false] rfl rfl (by kernel_rfl) (fun _ _ _ h => h) (Or.inr ⟨by rfl, rfl⟩) ?_ ?_
          rotate_left
          · simp only [Act.put, List.setIfInBounds_toArray, List.set_cons_zero, List.set_cons_succ, i64_w, i32_w]
            rfl
          refine pure_ (i := 15) (N := some 33) (v := undef) (a' := ?_) #[true, true, true, true, true, true, true, true, true, true, true, true, true, true, true, true, false] rfl rfl (by kernel_rfl) (fun _ _ _ h => h) (Or.inr ⟨by rfl, rfl⟩) ?_ ?_
          rotate_left
          · simp only [Act.put, List.setIfInBounds_toArray, List.set_cons_zero, List.set_cons_succ, i64_w, i32_w]
            rfl
          refine pure_ (i := 16) (N := some 34) (v := ?_) (a' := ?_) #[true, true, true, true, true, true, true, true, true, true, true, true, true, true, true, true, true] rfl rfl (by kernel_rfl) (fun _ _ _ h => h) (Or.inl ⟨by rfl, ?_⟩) ?_ ?_
          rotate_left
          · intro w'
            go_simp
            with_reducible rfl
          rotate_left
          · simp only [Act.put, List.setIfInBounds_toArray, List.set_cons_zero, List.set_cons_succ, i64_w, i32_w]
            rfl
          refine done_ (by kernel_rfl) ?_
          go_wp2
          go_roundw
          case measure => simp only [intOf, hwi]; omega
          case rel => exact ⟨i + 1, by omega, by omega, by first | rfl | rw [hwi], ⟨by rw [isTo_step c xs i (by omega), ← HYS.out, ← HS2.out]; exact HD_4_0.out⟩⟩
    · have c1b := decide_eq_false c1
      have hfin : isTo c xs i.toNat = isTo c xs n := by rw [show i.toNat = n by omega]
      rw [hfin] at HO
      clear hfin
      go_wp2
      go_end0
      exact ⟨rfl, HO.out⟩
open Go.Proofs.Ytanpidphaanjiaa.Sep in
set_option maxHeartbeats 8000000 in
set_option maxRecDepth 100000 in
theorem sort_none (v fv : Value) (a b : Int) (_h : Aside0 (a = b)) (_ha : 0 ≤ a ∧ a ≤ 1000) (w : World) :
    Calls Try.prog 39 #[v, .int .i64 a, .int .i64 b, fv] w fun e w' => e = .returned (.tuple #[]) ∧ w' = w := by
  have hwa : wrap64 (a + 1) = a + 1 := by unfold wrap64; omega
  go_enter Try.func39, Try.ntmps39
  go_wp2
  go_loopw [8] (fun v8 wr => v8 = .int .i64 (a + 1) ∧ wr = w) (fun _ _ => 0)
  case atStart => exact ⟨by first | rfl | rw [hwa], rfl⟩
  case round =>
    obtain ⟨rfl, rfl⟩ := hrel
    have cb : decide (a + 1 < b) = false := decide_eq_false (by have := _h.out; omega)
    go_wp2
    go_end0
    exact ⟨rfl, rfl⟩
open Go.Proofs.Ytanpidphaanjiaa.Sep in
set_option maxHeartbeats 8000000 in
set_option maxRecDepth 100000 in
theorem sort_stable (fv : FuncId) (fn : Func) (hfn : Try.prog.funcs[fv]? = some fn) (hnm : (fn.name == "runtime.NumGoroutine") = false) (hbd : fn.body.isSome = true) (caps : Array Value) (c : Int → Int → Int) (Pc : Int → Prop) (w0 : World) (F : List Sep.Item) (g n cap : Nat)
    (hcmp : ∀ (xs : List Int) (w : World) (p q : Int), Own w0 w (Sep.Item.row (Kd.int .i64) 3 (.slice (some ⟨g, 0, none⟩) n cap) xs :: F) → Pc p → Pc q → Calls Try.prog fv (#[.int .i64 p, .int .i64 q] ++ caps) w fun e w' => e = .returned (.int .i64 (c p q)) ∧ Own w0 w' (Sep.Item.row (Kd.int .i64) 3 (.slice (some ⟨g, 0, none⟩) n cap) xs :: F))
    (xs : List Int) (w : World) (_hx : ∀ y ∈ xs, Pc y) (_hn : xs.length = n) (_hb : 1 ≤ n ∧ n ≤ 20) (_h : Own w0 w (Sep.Item.row (Kd.int .i64) 3 (.slice (some ⟨g, 0, none⟩) n cap) xs :: F)) :
    Calls Try.prog 27 #[(.slice (some ⟨g, 0, none⟩) n cap), .int .i64 (n : Int), .func (.func fv) #[] caps] w fun e w' => e = .returned (.tuple #[]) ∧ Own w0 w' (Sep.Item.row (Kd.int .i64) 3 (.slice (some ⟨g, 0, none⟩) n cap) (isTo c xs n) :: F) := by
  have HO := Aside0.mk _h
  have HX := Aside0.mk _hx
  have HN := Aside0.mk _hn
  have HC := Aside0.mk hcmp
  have HB := Aside0.mk _hb
  clear _h _hx _hn hcmp _hb
  go_enter Try.func27, Try.ntmps27
  go_wp2
  go_loopw [7, 8] (fun v7 v8 wr => ∃ b : Bool, (b = true → n = 20) ∧ v7 = .int .i64 (if b then 20 else 0) ∧ v8 = .int .i64 (if b then 40 else 20) ∧ Aside0 (Own w0 wr (Sep.Item.row (Kd.int .i64) 3 (.slice (some ⟨g, 0, none⟩) n cap) (if b then isTo c xs n else xs) :: F))) (fun _ v8 _ => 100 - (intOf v8).toNat)
  case atStart => exact ⟨false, by simp, rfl, rfl, HO⟩
  case round =>
    obtain ⟨b, hb, rfl, rfl, HO1⟩ := hrel
    clear HO
    have HO := HO1
    clear HO1
    have hB := HB.out
    cases b with
    | false =>
      simp only [Bool.false_eq_true, ↓reduceIte] at HO ⊢
      by_cases c1 : n = 20
      · have c1b : decide ((20 : Int) ≤ (n : Int)) = true := decide_eq_true (by omega)
        have HN20 := Aside0.mk (show (n : Int) = 20 by omega)
        have HNN := Aside0.mk c1
        clear c1 hB hb
        go_wp2_with (first | ((with_reducible refine gate_callee (f := 39) rfl ?_); refine goesL_ (some 18) rfl rfl Try.func39 (by kernel_rfl) rfl #[.slice ((some ⟨g, 0, none⟩)) n cap, .int .i64 0, .int .i64 20, .func (.func fv) #[] caps] rfl (by (try simp only [List.map_toArray, List.map_cons, List.map_nil]); first | done | rfl) ?_; have hc_ := sort_ins fv fn hfn hnm hbd caps c Pc w0 F g n cap HC.out xs _ HX.out HN.out (by have := HB.out; omega) HO.out; rw [HN20.out] at hc_; refine hc_.mono ?_; rintro e w_1 ⟨rfl, ho⟩; refine ⟨_, rfl, ?_⟩; have HO_1 := Aside0.mk ho; clear ho hc_))
        go_roundw
        case measure => simp [intOf, wrap64]
        case rel => exact ⟨true, fun _ => HNN.out, rfl, by first | rfl | simp [wrap64], HO_1⟩
      · have c1b : decide ((20 : Int) ≤ (n : Int)) = false := decide_eq_false (by omega)
        clear hB hb
        go_wp2_with (first | ((with_reducible refine gate_callee (f := 39) rfl ?_); refine goesL_ (some 27) rfl rfl Try.func39 (by kernel_rfl) rfl #[.slice ((some ⟨g, 0, none⟩)) n cap, .int .i64 0, .int .i64 ((n : Int)), .func (.func fv) #[] caps] rfl (by (try simp only [List.map_toArray, List.map_cons, List.map_nil]); first | done | rfl) ?_; have hc_ := sort_ins fv fn hfn hnm hbd caps c Pc w0 F g n cap HC.out xs _ HX.out HN.out (by have := HB.out; omega) HO.out; refine hc_.mono ?_; rintro e w_1 ⟨rfl, ho⟩; refine ⟨_, rfl, ?_⟩; have HO_1 := Aside0.mk ho; clear ho hc_))
        (try simp only [Act.put, List.setIfInBounds_toArray, List.set_cons_zero, List.set_cons_succ])
        go_loopw [6] (fun v6 wr => v6 = .int .i64 20 ∧ Aside0 (Own w0 wr (Sep.Item.row (Kd.int .i64) 3 (.slice (some ⟨g, 0, none⟩) n cap) (isTo c xs n) :: F))) (fun _ _ => 0)
        case atStart => exact ⟨rfl, HO_1⟩
        case round =>
          clear HO
          obtain ⟨rfl, HO⟩ := hrel
          have cb : decide ((20 : Int) < (n : Int)) = false := decide_eq_false (by have := HB.out; omega)
          go_wp2
          go_end0
          exact ⟨rfl, HO.out⟩
    | true =>
      simp only [↓reduceIte] at HO ⊢
      have HN20 := Aside0.mk (show (n : Int) = 20 by have := hb rfl; omega)
      have c1b : decide ((40 : Int) ≤ (n : Int)) = false := decide_eq_false (by omega)
      clear hB hb
      go_wp2_with (first | ((with_reducible refine gate_callee (f := 39) rfl ?_); refine goesL_ (some 27) rfl rfl Try.func39 (by kernel_rfl) rfl #[.slice ((some ⟨g, 0, none⟩)) n cap, .int .i64 20, .int .i64 ((n : Int)), .func (.func fv) #[] caps] rfl (by (try simp only [List.map_toArray, List.map_cons, List.map_nil]); first | done | rfl) ?_; refine (sort_none _ _ 20 (n : Int) ⟨HN20.out.symm⟩ (by omega) _).mono ?_; rintro e w_1 ⟨rfl, rfl⟩; refine ⟨_, rfl, ?_⟩; have HO_1 := HO))
      (try simp only [Act.put, List.setIfInBounds_toArray, List.set_cons_zero, List.set_cons_succ])
      go_loopw [6] (fun v6 wr => v6 = .int .i64 20 ∧ Aside0 (Own w0 wr (Sep.Item.row (Kd.int .i64) 3 (.slice (some ⟨g, 0, none⟩) n cap) (isTo c xs n) :: F))) (fun _ _ => 0)
      case atStart => exact ⟨rfl, HO_1⟩
      case round =>
        clear HO
        obtain ⟨rfl, HO⟩ := hrel
        have cb : decide ((20 : Int) < (n : Int)) = false := decide_eq_false (by have := HB.out; omega)
        go_wp2
        go_end0
        exact ⟨rfl, HO.out⟩
open Go.Proofs.Ytanpidphaanjiaa.Sep in
set_option maxHeartbeats 8000000 in
set_option maxRecDepth 100000 in
theorem sort_stableF (fv : FuncId) (fn : Func) (hfn : Try.prog.funcs[fv]? = some fn) (hnm : (fn.name == "runtime.NumGoroutine") = false) (hbd : fn.body.isSome = true) (caps : Array Value) (c : Int → Int → Int) (Pc : Int → Prop) (w0 : World) (F : List Sep.Item) (g n cap : Nat)
    (hcmp : ∀ (xs : List Int) (w : World) (p q : Int), Own w0 w (Sep.Item.row (Kd.int .i64) 3 (.slice (some ⟨g, 0, none⟩) n cap) xs :: F) → Pc p → Pc q → Calls Try.prog fv (#[.int .i64 p, .int .i64 q] ++ caps) w fun e w' => e = .returned (.int .i64 (c p q)) ∧ Own w0 w' (Sep.Item.row (Kd.int .i64) 3 (.slice (some ⟨g, 0, none⟩) n cap) xs :: F))
    (xs : List Int) (w : World) (_hx : ∀ y ∈ xs, Pc y) (_hn : xs.length = n) (_hb : 1 ≤ n ∧ n ≤ 20) (_h : Own w0 w (Sep.Item.row (Kd.int .i64) 3 (.slice (some ⟨g, 0, none⟩) n cap) xs :: F)) :
    Calls Try.prog 21 #[(.slice (some ⟨g, 0, none⟩) n cap), .func (.func fv) #[] caps] w fun e w' => e = .returned (.tuple #[]) ∧ Own w0 w' (Sep.Item.row (Kd.int .i64) 3 (.slice (some ⟨g, 0, none⟩) n cap) (isTo c xs n) :: F) := by
  have HO := Aside0.mk _h
  have HX := Aside0.mk _hx
  have HN := Aside0.mk _hn
  have HC := Aside0.mk hcmp
  have HB := Aside0.mk _hb
  clear _h _hx _hn hcmp _hb
  go_enter Try.func21, Try.ntmps21
  go_wp2_with (first | ((with_reducible refine gate_callee (f := 27) rfl ?_); refine goesL_ (some 8) rfl rfl Try.func27 (by kernel_rfl) rfl #[.slice ((some ⟨g, 0, none⟩)) n cap, .int .i64 ((n : Int)), .func (.func fv) #[] caps] rfl (by (try simp only [List.map_toArray, List.map_cons, List.map_nil]); first | done | rfl) ?_; refine (sort_stable fv fn hfn hnm hbd caps c Pc w0 F g n cap HC.out xs _ HX.out HN.out HB.out HO.out).mono ?_; rintro e w_1 ⟨rfl, ho⟩; refine ⟨_, rfl, ?_⟩; have HO_1 := Aside0.mk ho; clear ho))
  go_end0
  exact ⟨rfl, HO_1.out⟩
open Go.Proofs.Ytanpidphaanjiaa.Sep in
set_option maxHeartbeats 8000000 in
set_option maxRecDepth 100000 in
theorem sort_stable0 (A : Option Addr) (c : Nat) (fv : Value) (w : World) :
    Calls Try.prog 27 #[.slice A 0 c, .int .i64 0, fv] w fun e w' => e = .returned (.tuple #[]) ∧ w' = w := by
  go_enter Try.func27, Try.ntmps27
  go_wp2
  go_loopw [7, 8] (fun v7 v8 wr => v7 = .int .i64 0 ∧ v8 = .int .i64 20 ∧ wr = w) (fun _ _ _ => 0)
  case atStart => exact ⟨rfl, rfl, rfl⟩
  case round =>
    obtain ⟨rfl, rfl, hw_⟩ := hrel
    have HW_ := Aside0.mk hw_
    clear hw_
    go_wp2_with (first | ((with_reducible refine gate_callee (f := 39) rfl ?_); refine goesL_ (some 27) rfl rfl Try.func39 (by kernel_rfl) rfl #[.slice A 0 c, .int .i64 0, .int .i64 0, fv] rfl (by (try simp only [List.map_toArray, List.map_cons, List.map_nil]); first | done | rfl) ?_; refine (sort_none _ _ 0 0 ⟨rfl⟩ (by omega) _).mono ?_; rintro e w' ⟨rfl, rfl⟩; refine ⟨_, rfl, ?_⟩))
    (try simp only [Act.put, List.setIfInBounds_toArray, List.set_cons_zero, List.set_cons_succ])
    go_loopw [6] (fun v6 wr' => v6 = .int .i64 20 ∧ Aside0 (wr' = w)) (fun _ _ => 0)
    case atStart => exact ⟨rfl, HW_⟩
    case round =>
      obtain ⟨rfl, HW2_⟩ := hrel
      go_wp2
      go_end0
      exact ⟨rfl, HW2_.out⟩
open Go.Proofs.Ytanpidphaanjiaa.Sep in
set_option maxHeartbeats 8000000 in
set_option maxRecDepth 100000 in
theorem sort_stableF0 (A : Option Addr) (c : Nat) (fv : Value) (w : World) :
    Calls Try.prog 21 #[.slice A 0 c, fv] w fun e w' => e = .returned (.tuple #[]) ∧ w' = w := by
  go_enter Try.func21, Try.ntmps21
  go_wp2_with (first | ((with_reducible refine gate_callee (f := 27) rfl ?_); refine goesL_ (some 8) rfl rfl Try.func27 (by kernel_rfl) rfl #[.slice A 0 c, .int .i64 0, fv] rfl (by (try simp only [List.map_toArray, List.map_cons, List.map_nil]); first | done | rfl) ?_; refine (sort_stable0 _ _ _ _).mono ?_; rintro e w' ⟨rfl, rfl⟩; refine ⟨_, rfl, ?_⟩))
  go_end0
  exact ⟨rfl, rfl⟩


open Go.Proofs.Ytanpidphaanjiaa.Sep in
set_option maxHeartbeats 16000000 in
set_option maxRecDepth 100000 in
theorem impl_MiddleOrder.cmp (w0 : World) (gm gr n cm : Nat) (mid : List Int) (hn : mid.length = n) (Y : Sep.Item) (F : List Sep.Item) (w1 : World) (p q : Int) (_h : Own w0 w1 (Y :: Sep.Item.box gm 24 #[.slice ((some ⟨gr, 0, none⟩)) n cm] :: Sep.Item.row (Kd.int .i64) 3 (.slice ((some ⟨gr, 0, none⟩)) n cm) (mid) :: F)) (hp : 0 ≤ p ∧ p < (n : Int)) (hq : 0 ≤ q ∧ q < (n : Int)) :
    Calls Try.prog 22 #[.int .i64 p, .int .i64 q, .pointer (some ⟨gm, 0, none⟩)] w1 fun e w' => e = .returned (.int .i64 (wrap64 (rd mid p - rd mid q))) ∧ Own w0 w' (Y :: Sep.Item.box gm 24 #[.slice ((some ⟨gr, 0, none⟩)) n cm] :: Sep.Item.row (Kd.int .i64) 3 (.slice ((some ⟨gr, 0, none⟩)) n cm) (mid) :: F) := by
  have HO := Aside0.mk _h
  have HNM := Aside0.mk hn
  clear _h hn
  have p1 : (0 ≤ p) = True := eq_true hp.1
  have p2 : (0 ≤ q) = True := eq_true hq.1
  have q1 : (p < (n : Int)) = True := eq_true hp.2
  have q2 : (q < (n : Int)) = True := eq_true hq.2
  obtain ⟨a, ha⟩ : ∃ a, rd mid p = a := ⟨_, rfl⟩
  obtain ⟨b, hb⟩ : ∃ b, rd mid q = b := ⟨_, rfl⟩
  rw [ha, hb]
  have HA := Aside0.mk ha
  have HB := Aside0.mk hb
  clear ha hb
  go_enter Try.func22, Try.ntmps22
  go_wp2
  have HD_1_0 := Aside0.mk (HO.out.drew)
  refine start_ (n := 10) (S := fun w' => w'.cell? ⟨gm, 0, none⟩ = some (.slice ((some ⟨gr, 0, none⟩)) n cm) ∧ w'.cell? ⟨gr, p.toNat, none⟩ = some (.int .i64 a) ∧ w'.cell? ⟨gr, q.toNat, none⟩ = some (.int .i64 b)) (ds := []) #[false, false, false, false, false, false, false, false, false, false] (by kernel_rfl) rfl rfl ⟨(HD_1_0.out.cell 1 rfl 0 rfl), (by have e := (Sep.own_row_cell (0 : Int) HD_1_0.out 2 rfl p hp.1 (by have := HNM.out; omega)).1; rw [show rdOf 0 mid p = a from HA.out] at e; exact e), (by have e := (Sep.own_row_cell (0 : Int) HD_1_0.out 2 rfl q hq.1 (by have := HNM.out; omega)).1; rw [show rdOf 0 mid q = b from HB.out] at e; exact e)⟩ (fun hHeld => ?_)
  generalize w1.drew = wd_1_1 at HD_1_0 hHeld ⊢
  refine pure_ (i := 1) (N := some 7) (v := ?_) (a' := ?_) #[false, true, false, false, false, false, false, false, false, false] rfl rfl (by kernel_rfl) (fun _ _ _ h => h) (Or.inl ⟨by rfl, ?_⟩) ?_ ?_
  rotate_left
  · intro w'
    go_simp
    with_reducible rfl
  rotate_left
  · simp only [Act.put, List.setIfInBounds_toArray, List.set_cons_zero, List.set_cons_succ, i64_w, i32_w]
    rfl
  refine pure_ (i := 5) (N := some 11) (v := ?_) (a' := ?_) #[false, true, false, false, false, true, false, false, false, false] rfl rfl (by kernel_rfl) (fun _ _ _ h => h) (Or.inl ⟨by rfl, ?_⟩) ?_ ?_
  rotate_left
  · intro w'
    go_simp
    with_reducible rfl
  rotate_left
  · simp only [Act.put, List.setIfInBounds_toArray, List.set_cons_zero, List.set_cons_succ, i64_w, i32_w]
    rfl
  refine take_ (i := 0) (N := some 6) (v := ?_) (a' := ?_) #[true, true, false, false, false, true, false, false, false, false] rfl rfl (by kernel_rfl) (fun _ _ _ h => h) (Or.inl ⟨by rfl, ?_⟩) hHeld ?_ ?_
  rotate_left
  · rintro w' ⟨s0, s1, s2⟩
    go_simp
    with_reducible rfl
  rotate_left
  · simp only [Act.put, List.setIfInBounds_toArray, List.set_cons_zero, List.set_cons_succ, i64_w, i32_w]
    rfl
  refine pure_ (i := 2) (N := some 8) (v := ?_) (a' := ?_) #[true, true, true, false, false, true, false, false, false, false] rfl rfl (by kernel_rfl) (fun _ _ _ h => h) (Or.inl ⟨by rfl, ?_⟩) ?_ ?_
  rotate_left
  · intro w'
    go_simp
    with_reducible rfl
  rotate_left
  · simp only [Act.put, List.setIfInBounds_toArray, List.set_cons_zero, List.set_cons_succ, i64_w, i32_w]
    rfl
  refine take_ (i := 3) (N := some 9) (v := ?_) (a' := ?_) #[true, true, true, true, false, true, false, false, false, false] rfl rfl (by kernel_rfl) (fun _ _ _ h => h) (Or.inl ⟨by rfl, ?_⟩) hHeld ?_ ?_
  rotate_left
  · rintro w' ⟨s0, s1, s2⟩
    go_simp
    with_reducible rfl
  rotate_left
  · simp only [Act.put, List.setIfInBounds_toArray, List.set_cons_zero, List.set_cons_succ, i64_w, i32_w]
    rfl
  refine take_ (i := 4) (N := some 10) (v := ?_) (a' := ?_) #[true, true, true, true, true, true, false, false, false, false] rfl rfl (by kernel_rfl) (fun _ _ _ h => h) (Or.inl ⟨by rfl, ?_⟩) hHeld ?_ ?_
  rotate_left
  · rintro w' ⟨s0, s1, s2⟩
    go_simp
    with_reducible rfl
  rotate_left
  · simp only [Act.put, List.setIfInBounds_toArray, List.set_cons_zero, List.set_cons_succ, i64_w, i32_w]
    rfl
  refine pure_ (i := 6) (N := some 12) (v := ?_) (a' := ?_) #[true, true, true, true, true, true, true, false, false, false] rfl rfl (by kernel_rfl) (fun _ _ _ h => h) (Or.inl ⟨by rfl, ?_⟩) ?_ ?_
  rotate_left
  · intro w'
    go_simp
    with_reducible rfl
  rotate_left
  · simp only [Act.put, List.setIfInBounds_toArray, List.set_cons_zero, List.set_cons_succ, i64_w, i32_w]
    rfl
  refine take_ (i := 7) (N := some 13) (v := ?_) (a' := ?_) #[true, true, true, true, true, true, true, true, false, false] rfl rfl (by kernel_rfl) (fun _ _ _ h => h) (Or.inl ⟨by rfl, ?_⟩) hHeld ?_ ?_
  rotate_left
  · rintro w' ⟨s0, s1, s2⟩
    go_simp
    with_reducible rfl
  rotate_left
  · simp only [Act.put, List.setIfInBounds_toArray, List.set_cons_zero, List.set_cons_succ, i64_w, i32_w]
    rfl
  refine pure_ (i := 8) (N := some 14) (v := ?_) (a' := ?_) #[true, true, true, true, true, true, true, true, true, false] rfl rfl (by kernel_rfl) (fun _ _ _ h => h) (Or.inl ⟨by rfl, ?_⟩) ?_ ?_
  rotate_left
  · intro w'
    go_simp
    with_reducible rfl
  rotate_left
  · simp only [Act.put, List.setIfInBounds_toArray, List.set_cons_zero, List.set_cons_succ, i64_w, i32_w]
    rfl
  refine pure_ (i := 9) (N := some 5) (v := ?_) (a' := ?_) #[true, true, true, true, true, true, true, true, true, true] rfl rfl (by kernel_rfl) (fun _ _ _ h => h) (Or.inl ⟨by rfl, ?_⟩) ?_ ?_
  rotate_left
  · intro w'
    go_simp
    with_reducible rfl
  rotate_left
  · simp only [Act.put, List.setIfInBounds_toArray, List.set_cons_zero, List.set_cons_succ, i64_w, i32_w]
    rfl
  refine done_ (by kernel_rfl) ?_
  go_wp2
  go_ret
  exact ⟨rfl, HD_1_0.out⟩

def impl_MiddleOrder.f (k : Nat) (l0 : List (List Int)) (a1 : Int) : Option (List Int × Bool) := (impl_AreLevelWires.f k l0 a1).bind fun t => if t = true then (if l0.length ≤ 30 ∧ 1 ≤ a1 ∧ a1 ≤ 7 ∧ (∀ x ∈ l0, x.length = 2) then ((impl_placesOf.f k (mdOrd l0 a1.toNat)).bind fun r => some (r, true)) else none) else some ([], false)
theorem impl_MiddleOrder.mono : ∀ a0 a1 k, LeO (impl_MiddleOrder.f k a0 a1) (impl_MiddleOrder.f (k + 1) a0 a1) := fun a0 a1 k => LeO.bind (impl_AreLevelWires.mono a0 a1 k) (fun _ => LeO.ite (LeO.ite (LeO.bind (impl_placesOf.mono _ k) (fun _ => LeO.refl _)) (LeO.refl _)) (LeO.refl _))
open Go.Proofs.Ytanpidphaanjiaa.Sep in
set_option maxHeartbeats 16000000 in
set_option maxRecDepth 100000 in
theorem impl_MiddleOrder.calls (k : Nat) (A0 : Option Addr) (c0 : Nat) (l0 : List (List Int)) (a1 : Int) (r1 : List Int) (r2 : Bool) (w : World) (hr0 : Kd.C (Kd.slice 3 (Kd.int .i64)) w A0 l0.length l0) (hc0 : l0.length ≤ c0) (h : impl_MiddleOrder.f k l0 a1 = some (r1, r2)) :
    Calls Try.prog 7 #[.slice A0 l0.length c0, .int .i64 a1] w fun e w' => ∃ v0_ : Value, e = .returned (.tuple #[v0_, .bool r2]) ∧ Kd.R (Kd.int .i64) 3 w' w.heap.size (fun _ => True) v0_ r1 ∧ Below w.heap.size w w' := by
  have HR := Aside0.mk hr0
  have HC0 := Aside0.mk hc0
  clear hr0 hc0
  unfold impl_MiddleOrder.f at h
  obtain ⟨t, hA, h1⟩ := Option.bind_eq_some_iff.mp h
  clear h
  have HA := Aside0.mk hA
  clear hA
  cases t with
  | false =>
    rw [if_neg (by decide)] at h1
    have h2 : (([] : List Int), false) = (r1, r2) := Option.some.inj h1
    clear h1
    injection h2 with e1 e2
    subst e1
    subst e2
    go_enter Try.func7, Try.ntmps7
    go_wp2_with (first | ((with_reducible refine gate_callee (f := 19) rfl ?_); refine goesL_ (some 14) rfl rfl Try.func19 (by kernel_rfl) rfl #[.slice A0 l0.length c0, .int .i64 a1] rfl (by (try simp only [List.map_toArray, List.map_cons, List.map_nil]); first | done | rfl) ?_; (with_reducible refine (impl_AreLevelWires.calls k _ _ l0 a1 false _ HR.out HC0.out HA.out).mono ?_); rintro e w_1 ⟨rfl, hd⟩; refine ⟨_, rfl, ?_⟩; have HO_1 := Aside0.mk ((Sep.Own.nil w).below hd.below); clear hd))
    go_ret2
    exact ⟨_, rfl, Kd.R_nil _ _ _ _ _, HO_1.out.base⟩
  | true =>
    rw [if_pos rfl] at h1
    split at h1
    · rename_i hcc
      obtain ⟨hl, hm1, hm7, hg⟩ := hcc
      obtain ⟨n, rfl⟩ := Int.eq_ofNat_of_zero_le (show 0 ≤ a1 by omega)
      rw [Int.toNat_natCast] at h1
      obtain ⟨ro, hP, h2⟩ := Option.bind_eq_some_iff.mp h1
      clear h1
      have h3 := Option.some.inj h2
      clear h2
      injection h3 with e1 e2
      subst e1
      subst e2
      have HPO := Aside0.mk hP
      have HL := Aside0.mk hl
      have HN := Aside0.mk (show 1 ≤ n ∧ n ≤ 7 by omega)
      have HG := Aside0.mk hg
      clear hP hl hm1 hm7 hg
      have HSL := Aside0.mk (show (mdOrd l0 n).length = n from by unfold mdOrd; rw [Sep.isTo_length, Sep.iota_length])
      go_enter Try.func7, Try.ntmps7
      go_wp2_with (first | ((with_reducible refine gate_callee (f := 19) rfl ?_); refine goesL_ (some 14) rfl rfl Try.func19 (by kernel_rfl) rfl #[.slice A0 l0.length c0, .int .i64 ((n : Int))] rfl (by (try simp only [List.map_toArray, List.map_cons, List.map_nil]); first | done | rfl) ?_; (with_reducible refine (impl_AreLevelWires.calls k _ _ l0 (n : Int) true _ HR.out HC0.out HA.out).mono ?_); rintro e w_1 ⟨rfl, hd⟩; refine ⟨_, rfl, ?_⟩; have HO_1 := Aside0.mk ((Sep.Own.nil w).below hd.below); clear hd) | ((with_reducible refine gate_dst (N := 17) rfl ?_); refine Sep.own_make (Kd.int .i64) HO_1.out 3 rfl (N := 17) rfl 24 _ _ rfl (n : Int) rfl rfl Try.underlying24 (.int .i64 0) 8 info3 rfl (by decide) (by omega) 0 rfl (by omega) (by have := HN.out; omega) ?_; intro x_17 w_2 ho _; rw [Int.toNat_natCast, ← mdRow_zero l0 n] at ho; obtain ⟨gr, ms, cm, hms, rfl⟩ := Sep.own_row_fseal ho 0 rfl (by rw [mdRow_length]; have := HN.out; omega); rw [mdRow_length] at hms; replace hms := hms.symm; subst hms; have HO_2 := Aside0.mk ho; clear ho) | ((with_reducible refine gate_dst (N := 6) rfl ?_); refine box_event ?hg (N := 6) ?hd (cs := #[.slice none 0 0]) (t := 24) ?hr ?_; (case hd => rfl); (case hg => rfl); (case hr => first | (go_simp; done) | (go_simp; rfl)); intro gm hg w_3 hbox hb; have HO_3 := Aside0.mk (HO_2.out.add_box (T := 24) (cs := #[.slice none 0 0]) hg hbox hb); clear hg hbox hb) | ((with_reducible refine gate_store (t := 24) (p := 6) (v := .tmp 17) rfl ?_); refine Sep.own_store HO_3.out 0 gm 24 _ #[.slice ((some ⟨gr, 0, none⟩)) n cm] rfl rfl rfl 24 (.tmp 6) (.tmp 17) rfl rfl (.slice ((some ⟨gr, 0, none⟩)) n cm) rfl rfl rfl (by kernel_rfl) (by simp [Value.oneCell']) ?_; intro w_4 ho; have HO_4 := Aside0.mk ho; clear ho) | ((with_reducible refine gate_dst (N := 18) rfl ?_); refine Sep.own_lit0 (Kd.int .i64) HO_4.out 3 ?hg (N := 18) ?hd ?hr ?_; (case hd => rfl); (case hg => rfl); (case hr => first | (go_simp; done) | (go_simp; rfl)); intro x_18 w_5 ho _; have HO_5 := Aside0.mk ho; clear ho; have z_1 : w_5.cell? ⟨gm, 0, none⟩ = some (.slice ((some ⟨gr, 0, none⟩)) n cm) := (HO_5.out.cell 1 rfl 0 rfl)))
      (try simp only [Act.put, List.setIfInBounds_toArray, List.set_cons_zero, List.set_cons_succ])
      go_loopw [7, 21] (fun v7 v21 wr => ∃ (i : Int), 0 ≤ i ∧ i ≤ (n : Int) ∧ v21 = .int .i64 i ∧ Aside0 (Own w wr [Item.row (Kd.int .i64) 3 (v7) ((Sep.iota i.toNat)), Item.box gm 24 #[.slice ((some ⟨gr, 0, none⟩)) n cm], Item.row (Kd.int .i64) 3 (.slice ((some ⟨gr, 0, none⟩)) n cm) ((mdRow l0 n i))])) (fun _ v21 _ => n - (intOf v21).toNat)
      case atStart => exact ⟨0, Int.le_refl _, by omega, rfl, ⟨(((HO_5.out.front 2 rfl).front 2 rfl).front 2 rfl)⟩⟩
      case round =>
        clear HO_5
        obtain ⟨i, hi0, hi2, rfl, HO⟩ := hrel
        by_cases hi1 : i < (n : Int)
        · have c1b := decide_eq_true hi1
          have hwi : wrap64 (i + 1) = i + 1 := by have := HN.out; unfold wrap64; omega
          go_wp2_with (first | ((with_reducible refine gate_dst (N := 24) rfl ?_); refine Sep.own_lit0 (Kd.int .i64) HO.out 3 ?hg (N := 24) ?hd ?hr ?_; (case hd => rfl); (case hg => rfl); (case hr => first | (go_simp; done) | (go_simp; rfl)); intro x_24 w_1 ho _; have HO_1 := Aside0.mk ho; clear ho))
          (try simp only [Act.put, List.setIfInBounds_toArray, List.set_cons_zero, List.set_cons_succ])
          go_loopw [9, 27] (fun v9 v27 wr => ∃ (j : Int) (o : List Int), 0 ≤ j ∧ j ≤ (l0.length : Int) ∧ v27 = .int .i64 j ∧ Aside0 (mdAbI i (l0.drop j.toNat) o = mdAbI i l0 []) ∧ Aside0 ((o.length : Int) ≤ j) ∧ Aside0 (Own w wr [Item.row (Kd.int .i64) 3 (v9) (o), Item.row (Kd.int .i64) 3 (u7) ((Sep.iota i.toNat)), Item.box gm 24 #[.slice ((some ⟨gr, 0, none⟩)) n cm], Item.row (Kd.int .i64) 3 (.slice ((some ⟨gr, 0, none⟩)) n cm) ((mdRow l0 n i))])) (fun _ v27 _ => l0.length - (intOf v27).toNat)
          case atStart => exact ⟨0, [], Int.le_refl _, by omega, rfl, ⟨rfl⟩, ⟨by simp⟩, ⟨((((HO_1.out.front 3 rfl).front 3 rfl).front 3 rfl).front 3 rfl)⟩⟩
          case round =>
            clear HO
            obtain ⟨j, o, hj0, hj2, rfl, HJ, HOL, HO⟩ := hrel
            by_cases hj1 : j < (l0.length : Int)
            · have c2b := decide_eq_true hj1
              have hwj : wrap64 (j + 1) = j + 1 := by have := HL.out; unfold wrap64; omega
              obtain ⟨ad, aw, cw, y0, y1, e0, hx, hi_, _, e1, e2⟩ := md_row HR.out HG.out j hj0 hj1
              cases e0
              have HI := Aside0.mk hi_
              have hx2 : ∀ w1 : World, Below w.heap.size w w1 → w1.cell? (ad.add j.toNat) = some (.slice (some aw) 2 cw) := fun w1 hb => pw_cell_below hb hx
              have HX := Aside0.mk hx2
              have HY := Aside0.mk (And.intro e1 e2)
              clear hx hi_ hx2 e1 e2
              have p1 : (0 ≤ j) = True := eq_true hj0
              have q1 : (j < (l0.length : Int)) = True := eq_true hj1
              have hjd := HJ.out
              rw [md_dropL l0 j hj0 hj1, mdAbI, HY.out.1, HY.out.2] at hjd
              by_cases c2 : y1 = i
              · have c2c : (y1 == i) = true := beq_iff_eq.mpr c2
                rw [if_pos c2] at hjd
                have HJ2 := Aside0.mk hjd
                clear hjd c2
                have z_2 : wr.cell? (ad.add j.toNat) = some (.slice (some aw) 2 cw) := (HX.out _ HO.out.base)
                have z_3 : wr.cell? ⟨aw.block, aw.off + 1, none⟩ = some (.int .i64 y1) := (by rw [← HY.out.2]; exact (md_at2 (Kd.C_below HI.out HO.out.base)).2)
                have z_4 : wr.cell? aw = some (.int .i64 y0) := (by rw [← HY.out.1]; exact (md_at2 (Kd.C_below HI.out HO.out.base)).1)
                go_wp2_with (first | ((with_reducible refine gate_dst (N := 41) rfl ?_); at_builtin; refine Sep.own_append (Kd.int .i64) HO.out 0 _ (o) 3 rfl rfl (.tmp 36) (.tmp 40) 24 (.int .i64 0) 8 rfl Try.underlying24 info3 rfl (by decide) (by omega) y0 [.int .i64 y0] rfl rfl rfl (by have := HOL.out; have := HL.out; omega) ?_; intro x_41 w_2 ho; have HO_2 := Aside0.mk ho; clear ho))
                go_roundw
                case measure => simp only [intOf, hwj]; omega
                case rel => exact ⟨j + 1, o ++ [y0], by omega, by omega, by first | rfl | rw [hwj], HJ2, ⟨by rw [List.length_append, List.length_singleton]; have := HOL.out; omega⟩, ⟨((((HO_2.out.front 3 rfl).front 3 rfl).front 3 rfl).front 3 rfl)⟩⟩
              · have c2c : (y1 == i) = false := beq_eq_false_iff_ne.mpr c2
                rw [if_neg c2] at hjd
                have HJ2 := Aside0.mk hjd
                clear hjd c2
                have z_2 : wr.cell? (ad.add j.toNat) = some (.slice (some aw) 2 cw) := (HX.out _ HO.out.base)
                have z_3 : wr.cell? ⟨aw.block, aw.off + 1, none⟩ = some (.int .i64 y1) := (by rw [← HY.out.2]; exact (md_at2 (Kd.C_below HI.out HO.out.base)).2)
                go_wp2
                go_roundw
                case measure => simp only [intOf, hwj]; omega
                case rel => exact ⟨j + 1, o, by omega, by omega, by first | rfl | rw [hwj], HJ2, ⟨by have := HOL.out; omega⟩, HO⟩
            · have c2b := decide_eq_false hj1
              obtain rfl : j = (l0.length : Int) := by omega
              have hjd := HJ.out
              rw [Int.toNat_natCast, List.drop_length, mdAbI] at hjd
              have HJ2 := Aside0.mk hjd
              clear hjd
              obtain ⟨Ao, co, rfl⟩ := HO.out.row_slice 0 rfl
              have p1 : (0 ≤ i) = True := eq_true hi0
              have q1 : (i < (n : Int)) = True := eq_true hi1
              by_cases c2 : o = []
              · have HM2 := Aside0.mk (show mdMidI l0 i = -1 from by unfold mdMidI; rw [← HJ2.out, if_pos c2])
                subst c2
                clear HJ HJ2 HOL
                (try rw [List.length_nil] at HO)
                go_wp2_with (first | ((with_reducible refine gate_callee (f := 20) rfl ?_); refine goesL_ (some 44) rfl rfl Try.func20 (by kernel_rfl) rfl #[.slice Ao 0 co] rfl (by (try simp only [List.map_toArray, List.map_cons, List.map_nil]); first | done | rfl) ?_; refine (Try.slices_Sort_int_none Ao co _).mono ?_; rintro e w_1 ⟨rfl, hw_⟩; refine ⟨_, rfl, ?_⟩; have HO_1 := Aside0.mk (show Own w w_1 [Item.row (Kd.int .i64) 3 (.slice Ao 0 co) ([]), Item.row (Kd.int .i64) 3 (u7) ((Sep.iota i.toNat)), Item.box gm 24 #[.slice ((some ⟨gr, 0, none⟩)) n cm], Item.row (Kd.int .i64) 3 (.slice ((some ⟨gr, 0, none⟩)) n cm) ((mdRow l0 n i))] from by rw [hw_]; exact HO.out); clear hw_; have z_2 : w_1.cell? ⟨gm, 0, none⟩ = some (.slice ((some ⟨gr, 0, none⟩)) n cm) := (HO_1.out.cell 2 rfl 0 rfl)) | ((with_reducible refine gate_store (t := 3) (p := 47) (v := .const (.int .i64 (-1))) rfl ?_); refine Sep.own_put_ev (0 : Int) HO_1.out 3 rfl i (-1) hi0 (by rw [mdRow_length]; exact hi1) rfl rfl 3 (.tmp 47) (.const (.int .i64 (-1))) rfl rfl rfl rfl (by kernel_rfl) ?_; intro w_2 ho; have HO_2 := Aside0.mk ho; clear ho) | ((with_reducible refine gate_dst (N := 63) rfl ?_); at_builtin; refine Sep.own_append (Kd.int .i64) HO_2.out 1 _ ((Sep.iota i.toNat)) 3 rfl rfl (.tmp 60) (.tmp 62) 24 (.int .i64 0) 8 rfl Try.underlying24 info3 rfl (by decide) (by omega) i [.int .i64 i] rfl rfl rfl (by rw [Sep.iota_length]; have := HN.out; omega) ?_; intro x_63 w_4 ho; have HO_4 := Aside0.mk ho; clear ho))
                go_roundw
                case measure => simp only [intOf, hwi]; omega
                case rel => exact ⟨i + 1, by omega, by omega, by first | rfl | rw [hwi], ⟨by rw [Sep.iota_succ i hi0, ← mdRow_set l0 n i hi0 hi1, HM2.out]; exact ((((HO_4.out.front 3 rfl).front 3 rfl).front 3 rfl).front 3 rfl).tail⟩⟩
              · have hpos : 0 < o.length := List.length_pos_iff.mpr c2
                have hdv : Int.tdiv (o.length : Int) 2 = ((o.length / 2 : Nat) : Int) := by rw [Int.tdiv_eq_ediv_of_nonneg (by omega)]; rfl
                have HM2 := Aside0.mk (show mdMidI l0 i = rd (o.mergeSort fun x y => decide (x ≤ y)) ((o.length / 2 : Nat) : Int) from by unfold mdMidI mdSorted; rw [← HJ2.out, if_neg c2])
                obtain ⟨hm, hhm⟩ : ∃ hm : Int, hm = ((o.length / 2 : Nat) : Int) := ⟨_, rfl⟩
                rw [← hhm] at HM2 hdv
                have hm0 : 0 ≤ hm := by omega
                have hm1 : hm < (o.length : Int) := by omega
                have hwd : wrap64 hm = hm := by have := HOL.out; have := HL.out; unfold wrap64; omega
                have hgt : decide ((o.length : Int) > 0) = true := decide_eq_true (by omega)
                obtain ⟨gq, cq, hsv⟩ := Sep.own_row_form HO.out 0 rfl hpos
                injection hsv with ha hb hc
                subst ha
                subst hc
                have HSN := Aside0.mk (show (o.mergeSort fun x y => decide (x ≤ y)).length = o.length from List.length_mergeSort _)
                have HSZ := Aside0.mk (show o.length < 4611686018427387904 by have := HOL.out; have := HL.out; omega)
                skip
                obtain ⟨z, hz⟩ : ∃ z, rd (o.mergeSort fun x y => decide (x ≤ y)) hm = z := ⟨_, rfl⟩
                rw [hz] at HM2
                have HZ := Aside0.mk hz
                have HM := Aside0.mk (And.intro hm0 hm1)
                have p3 : (0 ≤ hm) = True := eq_true hm0
                have q3 : (hm < (o.length : Int)) = True := eq_true hm1
                have c3b : (0 < o.length) = True := eq_true hpos
                clear hb hz c2 hhm hm0 hm1 hpos
                go_wp2_with (first | ((with_reducible refine gate_callee (f := 20) rfl ?_); refine goesL_ (some 44) rfl rfl Try.func20 (by kernel_rfl) rfl #[.slice ((some ⟨gq, 0, none⟩)) o.length co] rfl (by (try simp only [List.map_toArray, List.map_cons, List.map_nil]); first | done | rfl) ?_; obtain ⟨hsH, hsb, _, hback⟩ := own_sort HO.out 0 rfl; refine (Try.slices_Sort_int gq 0 co o _ hsH hsb HSZ.out).mono ?_; rintro e w_1 ⟨rfl, nq, os, hw_⟩; refine ⟨_, rfl, ?_⟩; have HO_1 := Aside0.mk (show Own w w_1 [Item.row (Kd.int .i64) 3 (.slice ((some ⟨gq, 0, none⟩)) o.length co) ((o.mergeSort fun x y => decide (x ≤ y))), Item.row (Kd.int .i64) 3 (u7) ((Sep.iota i.toNat)), Item.box gm 24 #[.slice ((some ⟨gr, 0, none⟩)) n cm], Item.row (Kd.int .i64) 3 (.slice ((some ⟨gr, 0, none⟩)) n cm) ((mdRow l0 n i))] from by rw [hw_]; exact hback (o.mergeSort fun x y => decide (x ≤ y)) nq os HSN.out); clear hsH hsb hback hw_; have z_2 : w_1.cell? ⟨gm, 0, none⟩ = some (.slice ((some ⟨gr, 0, none⟩)) n cm) := (HO_1.out.cell 2 rfl 0 rfl)) | ((with_reducible refine gate_store (t := 3) (p := 47) (v := .const (.int .i64 (-1))) rfl ?_); refine Sep.own_put_ev (0 : Int) HO_1.out 3 rfl i (-1) hi0 (by rw [mdRow_length]; exact hi1) rfl rfl 3 (.tmp 47) (.const (.int .i64 (-1))) rfl rfl rfl rfl (by kernel_rfl) ?_; intro w_2 ho; have HO_2 := Aside0.mk ho; clear ho))
                have HD_18_2 := Aside0.mk (HO_2.out.drew)
                refine start_ (n := 10) (S := fun w' => w'.cell? ⟨gm, 0, none⟩ = some (.slice ((some ⟨gr, 0, none⟩)) n cm) ∧ w'.cell? ⟨gq, hm.toNat, none⟩ = some (.int .i64 z)) (ds := [9]) #[false, false, false, false, false, false, false, false, false, false] (by kernel_rfl) rfl rfl ⟨(HD_18_2.out.cell 2 rfl 0 rfl), (by have e := (Sep.own_row_cell (0 : Int) HD_18_2.out 0 rfl hm HM.out.1 (by rw [HSN.out]; exact HM.out.2)).1; rw [show rdOf 0 (o.mergeSort fun x y => decide (x ≤ y)) hm = z from HZ.out] at e; exact e)⟩ (fun hHeld => ?_)
                generalize w_2.drew = wd_18_3 at HD_18_2 hHeld ⊢
                refine pure_ (i := 1) (N := some 52) (v := ?_) (a' := ?_) #[false, true, false, false, false, false, false, false, false, false] rfl rfl (by kernel_rfl) (fun _ _ _ h => h) (Or.inl ⟨by rfl, ?_⟩) ?_ ?_
                rotate_left
                · intro w'
                  go_simp
                  with_reducible rfl
                rotate_left
                · simp only [Act.put, List.setIfInBounds_toArray, List.set_cons_zero, List.set_cons_succ, i64_w, i32_w]
                  rfl
                refine pure_ (i := 2) (N := some 53) (v := ?_) (a' := ?_) #[false, true, true, false, false, false, false, false, false, false] rfl rfl (by kernel_rfl) (fun _ _ _ h => h) (Or.inl ⟨by rfl, ?_⟩) ?_ ?_
                rotate_left
                · intro w'
                  go_simp
                  with_reducible rfl
                rotate_left
                · simp only [Act.put, List.setIfInBounds_toArray, List.set_cons_zero, List.set_cons_succ, i64_w, i32_w]
                  rfl
                refine pure_ (i := 3) (N := some 54) (v := ?_) (a' := ?_) #[false, true, true, true, false, false, false, false, false, false] rfl rfl (by kernel_rfl) (fun _ _ _ h => h) (Or.inl ⟨by rfl, ?_⟩) ?_ ?_
                rotate_left
                · intro w'
                  go_simp
                  with_reducible rfl
                rotate_left
                · simp only [Act.put, List.setIfInBounds_toArray, List.set_cons_zero, List.set_cons_succ, i64_w, i32_w]
                  rfl
                refine pure_ (i := 4) (N := some 55) (v := ?_) (a' := ?_) #[false, true, true, true, true, false, false, false, false, false] rfl rfl (by kernel_rfl) (fun _ _ _ h => h) (Or.inl ⟨by rfl, ?_⟩) ?_ ?_
                rotate_left
                · intro w'
                  go_simp
                  with_reducible rfl
                rotate_left
                · simp only [Act.put, List.setIfInBounds_toArray, List.set_cons_zero, List.set_cons_succ, i64_w, i32_w]
                  rfl
                refine pure_ (i := 5) (N := some 56) (v := ?_) (a' := ?_) #[false, true, true, true, true, true, false, false, false, false] rfl rfl (by kernel_rfl) (fun _ _ _ h => h) (Or.inl ⟨by rfl, ?_⟩) ?_ ?_
                rotate_left
                · intro w'
                  go_simp
                  with_reducible rfl
                rotate_left
                · simp only [Act.put, List.setIfInBounds_toArray, List.set_cons_zero, List.set_cons_succ, i64_w, i32_w]
                  rfl
                refine pure_ (i := 6) (N := some 57) (v := ?_) (a' := ?_) #[false, true, true, true, true, true, true, false, false, false] rfl rfl (by kernel_rfl) (fun _ _ _ h => h) (Or.inl ⟨by rfl, ?_⟩) ?_ ?_
                rotate_left
                · intro w'
                  go_simp
                  with_reducible rfl
                rotate_left
                · simp only [Act.put, List.setIfInBounds_toArray, List.set_cons_zero, List.set_cons_succ, i64_w, i32_w]
                  rfl
                refine take_ (i := 0) (N := some 51) (v := ?_) (a' := ?_) #[true, true, true, true, true, true, true, false, false, false] rfl rfl (by kernel_rfl) (fun _ _ _ h => h) (Or.inl ⟨by rfl, ?_⟩) hHeld ?_ ?_
                rotate_left
                · rintro w' ⟨s0, s1⟩
                  go_simp
                  with_reducible rfl
                rotate_left
                · simp only [Act.put, List.setIfInBounds_toArray, List.set_cons_zero, List.set_cons_succ, i64_w, i32_w]
                  rfl
                refine take_ (i := 7) (N := some 58) (v := ?_) (a' := ?_) #[true, true, true, true, true, true, true, true, false, false] rfl rfl (by kernel_rfl) (fun _ _ _ h => h) (Or.inl ⟨by rfl, ?_⟩) hHeld ?_ ?_
                rotate_left
                · rintro w' ⟨s0, s1⟩
                  go_simp
                  with_reducible rfl
                rotate_left
                · simp only [Act.put, List.setIfInBounds_toArray, List.set_cons_zero, List.set_cons_succ, i64_w, i32_w]
                  rfl
                refine pure_ (i := 8) (N := some 59) (v := ?_) (a' := ?_) #[true, true, true, true, true, true, true, true, true, false] rfl rfl (by kernel_rfl) (fun _ _ _ h => h) (Or.inl ⟨by rfl, ?_⟩) ?_ ?_
                rotate_left
                · intro w'
                  go_simp
                  with_reducible rfl
                rotate_left
                · simp only [Act.put, List.setIfInBounds_toArray, List.set_cons_zero, List.set_cons_succ, i64_w, i32_w]
                  rfl
                refine last_ (i := 9) (N := none) #[true, true, true, true, true, true, true, true, true, true] rfl rfl (by kernel_rfl) (by decide) (fun K hK => ?_)
                obtain ⟨hbs, hbf⟩ := Sep.own_row_cell (0 : Int) HD_18_2.out 3 rfl i hi0 (by rw [List.length_set, mdRow_length]; exact hi1)
                refine skip_ (w1 := ?_) (by rfl) rfl ?_ ?_
                rotate_left
                · go_simp
                  rfl
                have HD_18_2a := Aside0.mk (Sep.own_put HD_18_2.out 3 rfl i z)
                clear hbs hbf
                generalize hgs_ : World.setCell wd_18_3 ⟨gr, i.toNat, none⟩ (Value.int .i64 z) = w_99 at HD_18_2a ⊢
                clear hgs_
                refine hK.out _ _ ?_
                clear hK K
                refine done_ (by kernel_rfl) ?_
                go_wp2_with (first | ((with_reducible refine gate_dst (N := 63) rfl ?_); at_builtin; refine Sep.own_append (Kd.int .i64) HD_18_2a.out 1 _ ((Sep.iota i.toNat)) 3 rfl rfl (.tmp 60) (.tmp 62) 24 (.int .i64 0) 8 rfl Try.underlying24 info3 rfl (by decide) (by omega) i [.int .i64 i] rfl rfl rfl (by rw [Sep.iota_length]; have := HN.out; omega) ?_; intro x_63 w_4 ho; have HO_4 := Aside0.mk ho; clear ho))
                go_roundw
                case measure => simp only [intOf, hwi]; omega
                case rel => exact ⟨i + 1, by omega, by omega, by first | rfl | rw [hwi], ⟨by rw [Sep.iota_succ i hi0, ← mdRow_set l0 n i hi0 hi1, HM2.out, ← md_set2 (mdRow l0 n i) i.toNat (-1) z]; exact ((((HO_4.out.front 3 rfl).front 3 rfl).front 3 rfl).front 3 rfl).tail⟩⟩
        · have c1b := decide_eq_false hi1
          obtain rfl : i = (n : Int) := by omega
          have ho := HO.out
          rw [Int.toNat_natCast] at ho
          have HO1 := Aside0.mk ho
          clear ho HO
          have HO := HO1
          clear HO1
          obtain ⟨gp, np, cp, hnp, rfl⟩ := Sep.own_row_fseal HO.out 0 rfl (by rw [Sep.iota_length]; have := HN.out; omega)
          rw [Sep.iota_length] at hnp
          replace hnp := hnp.symm
          subst hnp
          have HCM := Aside0.mk (show ∀ (xs : List Int) (w2 : World) (p q : Int), Own w w2 (Item.row (Kd.int .i64) 3 (.slice ((some ⟨gp, 0, none⟩)) n cp) (xs) :: [Item.box gm 24 #[.slice ((some ⟨gr, 0, none⟩)) n cm], Item.row (Kd.int .i64) 3 (.slice ((some ⟨gr, 0, none⟩)) n cm) ((mdRow l0 n (n : Int)))]) → (0 ≤ p ∧ p < (n : Int)) → (0 ≤ q ∧ q < (n : Int)) → Calls Try.prog 22 (#[.int .i64 p, .int .i64 q] ++ #[.pointer (some ⟨gm, 0, none⟩)]) w2 fun e w3 => e = .returned (.int .i64 (mdCmp l0 p q)) ∧ Own w w3 (Item.row (Kd.int .i64) 3 (.slice ((some ⟨gp, 0, none⟩)) n cp) (xs) :: [Item.box gm 24 #[.slice ((some ⟨gr, 0, none⟩)) n cm], Item.row (Kd.int .i64) 3 (.slice ((some ⟨gr, 0, none⟩)) n cm) ((mdRow l0 n (n : Int)))]) from fun xs w2 p q ho hp hq => by have e := impl_MiddleOrder.cmp w gm gr n cm (mdRow l0 n n) (mdRow_length _ _ _) _ [] w2 p q ho hp hq; rw [mdRow_rd l0 n n p hp.1 hp.2, mdRow_rd l0 n n q hq.1 hq.2, if_pos hp.2, if_pos hq.2] at e; exact e)
          go_wp2_with (first | ((with_reducible refine gate_callee (f := 21) rfl ?_); refine goesL_ (some 67) rfl rfl Try.func21 (by kernel_rfl) rfl #[.slice ((some ⟨gp, 0, none⟩)) n cp, .func (.func 22) #[] #[.pointer (some ⟨gm, 0, none⟩)]] rfl (by (try simp only [List.map_toArray, List.map_cons, List.map_nil]); first | done | rfl) ?_; refine (sort_stableF 22 Try.f22 Try.func22 (by kernel_rfl) rfl #[.pointer (some ⟨gm, 0, none⟩)] (mdCmp l0) (fun q => 0 ≤ q ∧ q < (n : Int)) w [Item.box gm 24 #[.slice ((some ⟨gr, 0, none⟩)) n cm], Item.row (Kd.int .i64) 3 (.slice ((some ⟨gr, 0, none⟩)) n cm) ((mdRow l0 n (n : Int)))] gp n cp (fun xs w2 p q ho hp hq => HCM.out xs w2 p q ho hp hq) (Sep.iota n) _ (fun y hy => Sep.iota_mem hy) (Sep.iota_length _) (by have := HN.out; omega) (((HO.out.front 2 rfl).front 2 rfl).front 2 rfl)).mono ?_; rintro e w_1 ⟨rfl, ho⟩; refine ⟨_, rfl, ?_⟩; have HO_1 := Aside0.mk ho; clear ho) | ((with_reducible refine gate_callee (f := 23) rfl ?_); refine goesL_ (some 69) rfl rfl Try.func23 (by kernel_rfl) rfl #[.slice ((some ⟨gp, 0, none⟩)) n cp] rfl (by (try simp only [List.map_toArray, List.map_cons, List.map_nil]); first | done | rfl) ?_; have hc_ := impl_placesOf.calls k (some ⟨gp, 0, none⟩) cp (mdOrd l0 n) ro _ (HO_1.out.row_reads 0 rfl).2.2 (by rw [HSL.out]; exact (HO_1.out.row_reads 0 rfl).2.1) HPO.out; rw [HSL.out] at hc_; refine hc_.mono ?_; rintro e w_2 ⟨x_69, rfl, hR, hb⟩; refine ⟨_, rfl, ?_⟩; have HO_2 := Aside0.mk (HO_1.out.add_row hR hb); clear hR hb hc_))
          go_ret2
          obtain ⟨P_, hP_⟩ := HO_2.out.get 0 rfl
          exact ⟨_, rfl, Kd.R_mono hP_ (fun _ _ => trivial), HO_2.out.base⟩
    · cases h1

end Go.Proofs.Ytanpidphaanjiaa.QFnExactMiddleOrder
