/- The functions that the law FnRoutings uses: each Go function as a Lean function, and the proof that the Go code comes to its answers (part 6). Written by wip/gen/own.py out of what print.sh printed for this seat, changed by that program where the printed text fell in Lean. Conditions: those of each theorem. -/
import Derived.Test.YtbkighlfgaifeaaSFnRoutingsx0
import Derived.Test.YtbkighlfgaifeaaSFnRoutingsx1
namespace Go.Proofs.Ytbkighlfgaifeaa.QFnRoutings
open Go.RowKit Go.Proofs.YtbkighlfgaifeaaW.PrintWords Go.Proofs.YtbkighlfgaifeaaW.PrintLast Go.Proofs.YtbkighlfgaifeaaW.PrintMore
attribute [local go_sem] max2_int min2_int max_two min_two max_three min_three max_four min_four   -- for this text's walks alone
set_option linter.unusedVariables false
set_option linter.unusedSimpArgs false
open Go.Proofs.Ytbkighlfgaifeaa.Sep in
set_option maxHeartbeats 8000000 in
set_option maxRecDepth 100000 in
theorem sort_ins (fv : FuncId) (fn : Func) (hfn : Try.prog.funcs[fv]? = some fn) (hnm : (fn.name == "runtime.NumGoroutine") = false) (hbd : fn.body.isSome = true) (caps : Array Value) (c : Int → Int → Int) (Pc : Int → Prop) (w0 : World) (F : List Sep.Item) (g n cap : Nat)
  (hcmp : ∀ (xs : List Int) (w : World) (p q : Int), Own w0 w (Sep.Item.row (Kd.int .i64) 3 (.slice (some ⟨g, 0, none⟩) n cap) xs :: F) → Pc p → Pc q → Calls Try.prog fv (#[.int .i64 p, .int .i64 q] ++ caps) w fun e w' => e = .returned (.int .i64 (c p q)) ∧ Own w0 w' (Sep.Item.row (Kd.int .i64) 3 (.slice (some ⟨g, 0, none⟩) n cap) xs :: F))
  (xs : List Int) (w : World) (_hx : ∀ y ∈ xs, Pc y) (_hn : xs.length = n) (_hb : 1 ≤ n ∧ n ≤ 1000) (_h : Own w0 w (Sep.Item.row (Kd.int .i64) 3 (.slice (some ⟨g, 0, none⟩) n cap) xs :: F)) :
  Calls Try.prog 192 #[(.slice (some ⟨g, 0, none⟩) n cap), .int .i64 0, .int .i64 (n : Int), .func (.func fv) #[] caps] w fun e w' => e = .returned (.tuple #[]) ∧ Own w0 w' (Sep.Item.row (Kd.int .i64) 3 (.slice (some ⟨g, 0, none⟩) n cap) (isTo c xs n) :: F) := by
 have HO := Aside0.mk _h
 have HX := Aside0.mk _hx
 have HN := Aside0.mk _hn
 have HC := Aside0.mk hcmp
 clear _h _hx _hn hcmp
 go_enter Try.func192, Try.ntmps192
 go_wp2
 go_loopw [8] (fun v8 wr => ∃ (i : Int), 1 ≤ i ∧ i ≤ (n : Int) ∧ v8 = .int .i64 i ∧ Aside0 (Own w0 wr (Sep.Item.row (Kd.int .i64) 3 (.slice (some ⟨g, 0, none⟩) n cap) (isTo c xs i.toNat) :: F))) (fun v8 _ => n - (intOf v8).toNat)
 case atStart => exact ⟨1, by omega, by omega, by first | rfl | simp [wrap64], HO⟩
 case round =>
  obtain ⟨i, hi1, hin, rfl, HO1⟩ := hrel
  clear HO
  have HO := HO1
  clear HO1
  by_cases c1 : i < (n : Int)
  ·have c1b := decide_eq_true c1
   have hwi : wrap64 (i + 1) = i + 1 := by unfold wrap64; omega
   have hall := isTo_all c xs HX.out i.toNat (by have := HN.out; omega)
   have hlen := isTo_length c xs i.toNat
   obtain ⟨ys, hys⟩ : ∃ ys, ys = isTo c xs i.toNat := ⟨_, rfl⟩
   rw [← hys] at HO hall hlen
   have HA := Aside0.mk hall
   have HL := Aside0.mk (show ys.length = n by have := HN.out; omega)
   have HYS := Aside0.mk hys
   clear hall hlen hys
   go_wp2
   go_loopw [9] (fun v9 wr => ∃ (j : Int) (zs : List Int), 0 ≤ j ∧ j ≤ i ∧ v9 = .int .i64 j ∧ Aside0 (isSink c j.toNat zs = isSink c i.toNat ys) ∧ Aside0 (∀ y ∈ zs, Pc y) ∧ Aside0 (zs.length = n) ∧ Aside0 (Own w0 wr (Sep.Item.row (Kd.int .i64) 3 (.slice (some ⟨g, 0, none⟩) n cap) zs :: F))) (fun v9 _ => (intOf v9).toNat)
   case atStart => exact ⟨i, ys, by omega, Int.le_refl _, rfl, ⟨rfl⟩, HA, HL, HO⟩
   case round =>
    clear HO
    obtain ⟨j, zs, hj0, hji, rfl, HS, HZ, HZL, HO⟩ := hrel
    by_cases c2 : j > 0
    ·have c2b := decide_eq_true c2
     obtain ⟨jp, hjp⟩ : ∃ jp : Int, jp = j - 1 := ⟨_, rfl⟩
     have hwj : wrap64 (j - 1) = jp := by unfold wrap64; omega
     have hst := isSink_step c zs j (by omega)
     rw [← hjp] at hst
     have HST := Aside0.mk hst
     have hzl := HZL.out
     have hp := HZ.out _ (rd_mem (xs := zs) (j := j) hj0 (by omega))
     have hq := HZ.out _ (rd_mem (xs := zs) (j := jp) (by omega) (by omega))
     have HP := Aside0.mk hp
     have HQ := Aside0.mk hq
     have HJP := Aside0.mk hjp
     have hjp0 : 0 ≤ jp ∧ jp < (n : Int) := by omega
     have p1 : (0 ≤ j) = True := eq_true hj0
     have p2 : (0 ≤ jp) = True := eq_true hjp0.1
     have q1 : (j < (n : Int)) = True := eq_true (by omega)
     have q2 : (jp < (n : Int)) = True := eq_true hjp0.2
     clear hst hzl hp hq hjp
     by_cases c3 : c (rd zs j) (rd zs jp) < 0
     ·have c3b := decide_eq_true c3
      have hs := HST.out
      rw [if_pos c3] at hs
      have HS2 := Aside0.mk (hs.symm.trans HS.out)
      clear hs HST
      go_wp2
      have HD_4_0 := Aside0.mk (HO.out.drew)
      refine start_ (n := 17) (S := fun w' => w'.cell? ⟨g, j.toNat, none⟩ = some (.int .i64 (rd zs j)) ∧ w'.cell? ⟨g, jp.toNat, none⟩ = some (.int .i64 (rd zs jp))) (ds := []) #[false, false, false, false, false, false, false, false, false, false, false, false, false, false, false, false, false] (by kernel_rfl) rfl rfl ⟨(Sep.own_row_cell (0 : Int) HD_4_0.out 0 rfl j hj0 (by have := HZL.out; omega)).1, (Sep.own_row_cell (0 : Int) HD_4_0.out 0 rfl jp hjp0.1 (by have := HZL.out; omega)).1⟩ (fun hHeld => ?_)
      generalize wr.drew = wd_4_1 at HD_4_0 hHeld ⊢
      refine pure_ (i := 0) (N := some 18) (v := ?_) (a' := ?_) #[true, false, false, false, false, false, false, false, false, false, false, false, false, false, false, false, false] rfl rfl (by kernel_rfl) (fun _ _ _ h => h) (Or.inl ⟨by rfl, ?_⟩) ?_ ?_
      rotate_left
      ·intro w'
       go_simp
       with_reducible rfl
      rotate_left
      ·simp only [Act.put, List.setIfInBounds_toArray, List.set_cons_zero, List.set_cons_succ, i64_w, i32_w]
       rfl
      refine pure_ (i := 1) (N := some 19) (v := ?_) (a' := ?_) #[true, true, false, false, false, false, false, false, false, false, false, false, false, false, false, false, false] rfl rfl (by kernel_rfl) (fun _ _ _ h => h) (Or.inl ⟨by rfl, ?_⟩) ?_ ?_
      rotate_left
      ·intro w'
       go_simp
       with_reducible rfl
      rotate_left
      ·simp only [Act.put, List.setIfInBounds_toArray, List.set_cons_zero, List.set_cons_succ, i64_w, i32_w]
       rfl
      refine pure_ (i := 2) (N := some 20) (v := ?_) (a' := ?_) #[true, true, true, false, false, false, false, false, false, false, false, false, false, false, false, false, false] rfl rfl (by kernel_rfl) (fun _ _ _ h => h) (Or.inl ⟨by rfl, ?_⟩) ?_ ?_
      rotate_left
      ·intro w'
       go_simp
       with_reducible rfl
      rotate_left
      ·simp only [Act.put, List.setIfInBounds_toArray, List.set_cons_zero, List.set_cons_succ, i64_w, i32_w]
       rfl
      refine pure_ (i := 3) (N := some 21) (v := ?_) (a' := ?_) #[true, true, true, true, false, false, false, false, false, false, false, false, false, false, false, false, false] rfl rfl (by kernel_rfl) (fun _ _ _ h => h) (Or.inl ⟨by rfl, ?_⟩) ?_ ?_
      rotate_left
      ·intro w'
       go_simp
       with_reducible rfl
      rotate_left
      ·simp only [Act.put, List.setIfInBounds_toArray, List.set_cons_zero, List.set_cons_succ, i64_w, i32_w]
       rfl
      refine pure_ (i := 4) (N := some 22) (v := ?_) (a' := ?_) #[true, true, true, true, true, false, false, false, false, false, false, false, false, false, false, false, false] rfl rfl (by kernel_rfl) (fun _ _ _ h => h) (Or.inl ⟨by rfl, ?_⟩) ?_ ?_
      rotate_left
      ·intro w'
       go_simp
       with_reducible rfl
      rotate_left
      ·simp only [Act.put, List.setIfInBounds_toArray, List.set_cons_zero, List.set_cons_succ, i64_w, i32_w]
       rfl
      refine pure_ (i := 5) (N := some 23) (v := ?_) (a' := ?_) #[true, true, true, true, true, true, false, false, false, false, false, false, false, false, false, false, false] rfl rfl (by kernel_rfl) (fun _ _ _ h => h) (Or.inl ⟨by rfl, ?_⟩) ?_ ?_
      rotate_left
      ·intro w'
       go_simp
       with_reducible rfl
      rotate_left
      ·simp only [Act.put, List.setIfInBounds_toArray, List.set_cons_zero, List.set_cons_succ, i64_w, i32_w]
       rfl
      refine pure_ (i := 6) (N := some 24) (v := ?_) (a' := ?_) #[true, true, true, true, true, true, true, false, false, false, false, false, false, false, false, false, false] rfl rfl (by kernel_rfl) (fun _ _ _ h => h) (Or.inl ⟨by rfl, ?_⟩) ?_ ?_
      rotate_left
      ·intro w'
       go_simp
       with_reducible rfl
      rotate_left
      ·simp only [Act.put, List.setIfInBounds_toArray, List.set_cons_zero, List.set_cons_succ, i64_w, i32_w]
       rfl
      refine pure_ (i := 7) (N := some 25) (v := ?_) (a' := ?_) #[true, true, true, true, true, true, true, true, false, false, false, false, false, false, false, false, false] rfl rfl (by kernel_rfl) (fun _ _ _ h => h) (Or.inl ⟨by rfl, ?_⟩) ?_ ?_
      rotate_left
      ·intro w'
       go_simp
       with_reducible rfl
      rotate_left
      ·simp only [Act.put, List.setIfInBounds_toArray, List.set_cons_zero, List.set_cons_succ, i64_w, i32_w]
       rfl
      refine pure_ (i := 9) (N := some 27) (v := ?_) (a' := ?_) #[true, true, true, true, true, true, true, true, false, true, false, false, false, false, false, false, false] rfl rfl (by kernel_rfl) (fun _ _ _ h => h) (Or.inl ⟨by rfl, ?_⟩) ?_ ?_
      rotate_left
      ·intro w'
       go_simp
       with_reducible rfl
      rotate_left
      ·simp only [Act.put, List.setIfInBounds_toArray, List.set_cons_zero, List.set_cons_succ, i64_w, i32_w]
       rfl
      refine pure_ (i := 10) (N := some 28) (v := ?_) (a' := ?_) #[true, true, true, true, true, true, true, true, false, true, true, false, false, false, false, false, false] rfl rfl (by kernel_rfl) (fun _ _ _ h => h) (Or.inl ⟨by rfl, ?_⟩) ?_ ?_
      rotate_left
      ·intro w'
       go_simp
       with_reducible rfl
      rotate_left
      ·simp only [Act.put, List.setIfInBounds_toArray, List.set_cons_zero, List.set_cons_succ, i64_w, i32_w]
       rfl
      refine pure_ (i := 11) (N := some 29) (v := ?_) (a' := ?_) #[true, true, true, true, true, true, true, true, false, true, true, true, false, false, false, false, false] rfl rfl (by kernel_rfl) (fun _ _ _ h => h) (Or.inl ⟨by rfl, ?_⟩) ?_ ?_
      rotate_left
      ·intro w'
       go_simp
       with_reducible rfl
      rotate_left
      ·simp only [Act.put, List.setIfInBounds_toArray, List.set_cons_zero, List.set_cons_succ, i64_w, i32_w]
       rfl
      refine pure_ (i := 12) (N := some 30) (v := ?_) (a' := ?_) #[true, true, true, true, true, true, true, true, false, true, true, true, true, false, false, false, false] rfl rfl (by kernel_rfl) (fun _ _ _ h => h) (Or.inl ⟨by rfl, ?_⟩) ?_ ?_
      rotate_left
      ·intro w'
       go_simp
       with_reducible rfl
      rotate_left
      ·simp only [Act.put, List.setIfInBounds_toArray, List.set_cons_zero, List.set_cons_succ, i64_w, i32_w]
       rfl
      refine take_ (i := 8) (N := some 26) (v := ?_) (a' := ?_) #[true, true, true, true, true, true, true, true, true, true, true, true, true, false, false, false, false] rfl rfl (by kernel_rfl) (fun _ _ _ h => h) (Or.inl ⟨by rfl, ?_⟩) hHeld ?_ ?_
      rotate_left
      ·rintro w' ⟨s0, s1⟩
       go_simp
       with_reducible rfl
      rotate_left
      ·simp only [Act.put, List.setIfInBounds_toArray, List.set_cons_zero, List.set_cons_succ, i64_w, i32_w]
       rfl
      refine take_ (i := 13) (N := some 31) (v := ?_) (a' := ?_) #[true, true, true, true, true, true, true, true, true, true, true, true, true, true, false, false, false] rfl rfl (by kernel_rfl) (fun _ _ _ h => h) (Or.inl ⟨by rfl, ?_⟩) hHeld ?_ ?_
      rotate_left
      ·rintro w' ⟨s0, s1⟩
       go_simp
       with_reducible rfl
      rotate_left
      ·simp only [Act.put, List.setIfInBounds_toArray, List.set_cons_zero, List.set_cons_succ, i64_w, i32_w]
       rfl
      refine one_ (i := 14) (N := some 32) #[true, true, true, true, true, true, true, true, true, true, true, true, true, true, true, false, false] rfl rfl (by kernel_rfl) (by decide) (fun K hK => ?_)
      refine Sep.goesC_ (f := fv) hfn hnm hbd (#[.int .i64 (rd zs j), .int .i64 (rd zs jp)] ++ caps) (by rfl) rfl rfl rfl (by (try simp only [List.map_toArray, List.map_cons, List.map_nil]); first | done | rfl) ?_
      refine (HC.out zs _ _ _ HD_4_0.out HP.out HQ.out).mono ?_
      rintro e w_1 ⟨rfl, ho⟩
      refine ⟨_, rfl, ?_⟩
      have HO_1 := Aside0.mk ho
      clear ho
      refine hK.out _ _ ⟨(Sep.own_row_cell (0 : Int) HO_1.out 0 rfl j hj0 (by have := HZL.out; omega)).1, (Sep.own_row_cell (0 : Int) HO_1.out 0 rfl jp hjp0.1 (by have := HZL.out; omega)).1⟩ (fun hHeld => ?_)
      clear hK K
      refine norm_ (a' := ?_) ?_ ?_
      rotate_left
      ·show Act.put _ (some 32) _ = _
       simp only [Act.put, List.setIfInBounds_toArray, List.set_cons_zero, List.set_cons_succ, i64_w, i32_w]
       rfl
      refine pure_ (i := 15) (N := some 33) (v := ?_) (a' := ?_) #[true, true, true, true, true, true, true, true, true, true, true, true, true, true, true, true, false] rfl rfl (by kernel_rfl) (fun _ _ _ h => h) (Or.inl ⟨by rfl, ?_⟩) ?_ ?_
      rotate_left
      ·intro w'
       go_simp
       with_reducible rfl
      rotate_left
      ·simp only [Act.put, List.setIfInBounds_toArray, List.set_cons_zero, List.set_cons_succ, i64_w, i32_w]
       rfl
      refine pure_ (i := 16) (N := some 34) (v := ?_) (a' := ?_) #[true, true, true, true, true, true, true, true, true, true, true, true, true, true, true, true, true] rfl rfl (by kernel_rfl) (fun _ _ _ h => h) (Or.inl ⟨by rfl, ?_⟩) ?_ ?_
      rotate_left
      ·intro w'
       go_simp
       with_reducible rfl
      rotate_left
      ·simp only [Act.put, List.setIfInBounds_toArray, List.set_cons_zero, List.set_cons_succ, i64_w, i32_w]
       rfl
      refine done_ (by kernel_rfl) ?_
      go_wp2
      have HD_6_1 := Aside0.mk (HO_1.out.drew)
      refine start_ (n := 18) (S := fun w' => w'.cell? ⟨g, jp.toNat, none⟩ = some (.int .i64 (rd zs jp)) ∧ w'.cell? ⟨g, j.toNat, none⟩ = some (.int .i64 (rd zs j))) (ds := [15, 17]) #[false, false, false, false, false, false, false, false, false, false, false, false, false, false, false, false, false, false] (by kernel_rfl) rfl rfl ⟨(Sep.own_row_cell (0 : Int) HD_6_1.out 0 rfl jp hjp0.1 (by have := HZL.out; omega)).1, (Sep.own_row_cell (0 : Int) HD_6_1.out 0 rfl j hj0 (by have := HZL.out; omega)).1⟩ (fun hHeld => ?_)
      generalize w_1.drew = wd_6_2 at HD_6_1 hHeld ⊢
      refine pure_ (i := 0) (N := some 37) (v := ?_) (a' := ?_) #[true, false, false, false, false, false, false, false, false, false, false, false, false, false, false, false, false, false] rfl rfl (by kernel_rfl) (fun _ _ _ h => h) (Or.inl ⟨by rfl, ?_⟩) ?_ ?_
      rotate_left
      ·intro w'
       go_simp
       with_reducible rfl
      rotate_left
      ·simp only [Act.put, List.setIfInBounds_toArray, List.set_cons_zero, List.set_cons_succ, i64_w, i32_w]
       rfl
      refine pure_ (i := 1) (N := some 38) (v := ?_) (a' := ?_) #[true, true, false, false, false, false, false, false, false, false, false, false, false, false, false, false, false, false] rfl rfl (by kernel_rfl) (fun _ _ _ h => h) (Or.inl ⟨by rfl, ?_⟩) ?_ ?_
      rotate_left
      ·intro w'
       go_simp
       with_reducible rfl
      rotate_left
      ·simp only [Act.put, List.setIfInBounds_toArray, List.set_cons_zero, List.set_cons_succ, i64_w, i32_w]
       rfl
      refine pure_ (i := 2) (N := some 39) (v := ?_) (a' := ?_) #[true, true, true, false, false, false, false, false, false, false, false, false, false, false, false, false, false, false] rfl rfl (by kernel_rfl) (fun _ _ _ h => h) (Or.inl ⟨by rfl, ?_⟩) ?_ ?_
      rotate_left
      ·intro w'
       go_simp
       with_reducible rfl
      rotate_left
      ·simp only [Act.put, List.setIfInBounds_toArray, List.set_cons_zero, List.set_cons_succ, i64_w, i32_w]
       rfl
      refine pure_ (i := 3) (N := some 40) (v := ?_) (a' := ?_) #[true, true, true, true, false, false, false, false, false, false, false, false, false, false, false, false, false, false] rfl rfl (by kernel_rfl) (fun _ _ _ h => h) (Or.inl ⟨by rfl, ?_⟩) ?_ ?_
      rotate_left
      ·intro w'
       go_simp
       with_reducible rfl
      rotate_left
      ·simp only [Act.put, List.setIfInBounds_toArray, List.set_cons_zero, List.set_cons_succ, i64_w, i32_w]
       rfl
      refine pure_ (i := 4) (N := some 41) (v := ?_) (a' := ?_) #[true, true, true, true, true, false, false, false, false, false, false, false, false, false, false, false, false, false] rfl rfl (by kernel_rfl) (fun _ _ _ h => h) (Or.inl ⟨by rfl, ?_⟩) ?_ ?_
      rotate_left
      ·intro w'
       go_simp
       with_reducible rfl
      rotate_left
      ·simp only [Act.put, List.setIfInBounds_toArray, List.set_cons_zero, List.set_cons_succ, i64_w, i32_w]
       rfl
      refine pure_ (i := 5) (N := some 42) (v := ?_) (a' := ?_) #[true, true, true, true, true, true, false, false, false, false, false, false, false, false, false, false, false, false] rfl rfl (by kernel_rfl) (fun _ _ _ h => h) (Or.inl ⟨by rfl, ?_⟩) ?_ ?_
      rotate_left
      ·intro w'
       go_simp
       with_reducible rfl
      rotate_left
      ·simp only [Act.put, List.setIfInBounds_toArray, List.set_cons_zero, List.set_cons_succ, i64_w, i32_w]
       rfl
      refine pure_ (i := 6) (N := some 43) (v := ?_) (a' := ?_) #[true, true, true, true, true, true, true, false, false, false, false, false, false, false, false, false, false, false] rfl rfl (by kernel_rfl) (fun _ _ _ h => h) (Or.inl ⟨by rfl, ?_⟩) ?_ ?_
      rotate_left
      ·intro w'
       go_simp
       with_reducible rfl
      rotate_left
      ·simp only [Act.put, List.setIfInBounds_toArray, List.set_cons_zero, List.set_cons_succ, i64_w, i32_w]
       rfl
      refine pure_ (i := 7) (N := some 44) (v := ?_) (a' := ?_) #[true, true, true, true, true, true, true, true, false, false, false, false, false, false, false, false, false, false] rfl rfl (by kernel_rfl) (fun _ _ _ h => h) (Or.inl ⟨by rfl, ?_⟩) ?_ ?_
      rotate_left
      ·intro w'
       go_simp
       with_reducible rfl
      rotate_left
      ·simp only [Act.put, List.setIfInBounds_toArray, List.set_cons_zero, List.set_cons_succ, i64_w, i32_w]
       rfl
      refine pure_ (i := 8) (N := some 45) (v := ?_) (a' := ?_) #[true, true, true, true, true, true, true, true, true, false, false, false, false, false, false, false, false, false] rfl rfl (by kernel_rfl) (fun _ _ _ h => h) (Or.inl ⟨by rfl, ?_⟩) ?_ ?_
      rotate_left
      ·intro w'
       go_simp
       with_reducible rfl
      rotate_left
      ·simp only [Act.put, List.setIfInBounds_toArray, List.set_cons_zero, List.set_cons_succ, i64_w, i32_w]
       rfl
      refine pure_ (i := 10) (N := some 47) (v := ?_) (a' := ?_) #[true, true, true, true, true, true, true, true, true, false, true, false, false, false, false, false, false, false] rfl rfl (by kernel_rfl) (fun _ _ _ h => h) (Or.inl ⟨by rfl, ?_⟩) ?_ ?_
      rotate_left
      ·intro w'
       go_simp
       with_reducible rfl
      rotate_left
      ·simp only [Act.put, List.setIfInBounds_toArray, List.set_cons_zero, List.set_cons_succ, i64_w, i32_w]
       rfl
      refine pure_ (i := 11) (N := some 48) (v := ?_) (a' := ?_) #[true, true, true, true, true, true, true, true, true, false, true, true, false, false, false, false, false, false] rfl rfl (by kernel_rfl) (fun _ _ _ h => h) (Or.inl ⟨by rfl, ?_⟩) ?_ ?_
      rotate_left
      ·intro w'
       go_simp
       with_reducible rfl
      rotate_left
      ·simp only [Act.put, List.setIfInBounds_toArray, List.set_cons_zero, List.set_cons_succ, i64_w, i32_w]
       rfl
      refine pure_ (i := 12) (N := some 49) (v := ?_) (a' := ?_) #[true, true, true, true, true, true, true, true, true, false, true, true, true, false, false, false, false, false] rfl rfl (by kernel_rfl) (fun _ _ _ h => h) (Or.inl ⟨by rfl, ?_⟩) ?_ ?_
      rotate_left
      ·intro w'
       go_simp
       with_reducible rfl
      rotate_left
      ·simp only [Act.put, List.setIfInBounds_toArray, List.set_cons_zero, List.set_cons_succ, i64_w, i32_w]
       rfl
      refine take_ (i := 9) (N := some 46) (v := ?_) (a' := ?_) #[true, true, true, true, true, true, true, true, true, true, true, true, true, false, false, false, false, false] rfl rfl (by kernel_rfl) (fun _ _ _ h => h) (Or.inl ⟨by rfl, ?_⟩) hHeld ?_ ?_
      rotate_left
      ·rintro w' ⟨s0, s1⟩
       go_simp
       with_reducible rfl
      rotate_left
      ·simp only [Act.put, List.setIfInBounds_toArray, List.set_cons_zero, List.set_cons_succ, i64_w, i32_w]
       rfl
      refine take_ (i := 13) (N := some 50) (v := ?_) (a' := ?_) #[true, true, true, true, true, true, true, true, true, true, true, true, true, true, false, false, false, false] rfl rfl (by kernel_rfl) (fun _ _ _ h => h) (Or.inl ⟨by rfl, ?_⟩) hHeld ?_ ?_
      rotate_left
      ·rintro w' ⟨s0, s1⟩
       go_simp
       with_reducible rfl
      rotate_left
      ·simp only [Act.put, List.setIfInBounds_toArray, List.set_cons_zero, List.set_cons_succ, i64_w, i32_w]
       rfl
      refine pure_ (i := 14) (N := some 51) (v := ?_) (a' := ?_) #[true, true, true, true, true, true, true, true, true, true, true, true, true, true, true, false, false, false] rfl rfl (by kernel_rfl) (fun _ _ _ h => h) (Or.inl ⟨by rfl, ?_⟩) ?_ ?_
      rotate_left
      ·intro w'
       go_simp
       with_reducible rfl
      rotate_left
      ·simp only [Act.put, List.setIfInBounds_toArray, List.set_cons_zero, List.set_cons_succ, i64_w, i32_w]
       rfl
      refine last_ (i := 15) (N := none) #[true, true, true, true, true, true, true, true, true, true, true, true, true, true, true, true, false, false] rfl rfl (by kernel_rfl) (by decide) (fun K hK => ?_)
      obtain ⟨hbs, hbf⟩ := Sep.own_row_cell (0 : Int) HD_6_1.out 0 rfl j hj0 (by have := HZL.out; omega)
      refine skip_ (w1 := ?_) (by rfl) rfl ?_ ?_
      rotate_left
      ·go_simp
       rfl
      have HD_6_1a := Aside0.mk (Sep.own_put HD_6_1.out 0 rfl j (rd zs jp))
      clear hbs hbf
      refine hK.out _ _ ?_
      clear hK K
      refine pure_ (i := 16) (N := some 52) (v := ?_) (a' := ?_) #[true, true, true, true, true, true, true, true, true, true, true, true, true, true, true, true, true, false] rfl rfl (by kernel_rfl) (fun _ _ _ h => h) (Or.inl ⟨by rfl, ?_⟩) ?_ ?_
      rotate_left
      ·intro w'
       go_simp
       with_reducible rfl
      rotate_left
      ·simp only [Act.put, List.setIfInBounds_toArray, List.set_cons_zero, List.set_cons_succ, i64_w, i32_w]
       rfl
      refine last_ (i := 17) (N := none) #[true, true, true, true, true, true, true, true, true, true, true, true, true, true, true, true, true, true] rfl rfl (by kernel_rfl) (by decide) (fun K hK => ?_)
      obtain ⟨hbs, hbf⟩ := Sep.own_row_cell (0 : Int) HD_6_1a.out 0 rfl jp hjp0.1 (by have := HZL.out; rw [List.length_set]; omega)
      refine skip_ (w1 := ?_) (by rfl) rfl ?_ ?_
      rotate_left
      ·go_simp
       rfl
      have HD_6_1ab := Aside0.mk (Sep.own_put HD_6_1a.out 0 rfl jp (rd zs j))
      clear hbs hbf
      refine hK.out _ _ ?_
      clear hK K
      refine done_ (by kernel_rfl) ?_
      go_wp2
      go_roundw
      case measure => have := HJP.out; simp only [intOf, hwj]; omega
      case rel => exact ⟨jp, Sep.swp zs j, hjp0.1, by have := HJP.out; omega, by first | rfl | rw [hwj] | rw [HJP.out], HS2, ⟨swp_all HZ.out (by omega) (by have := HZL.out; omega)⟩, ⟨by rw [swp_length]; exact HZL.out⟩, ⟨by rw [show Sep.swp zs j = (zs.set j.toNat (rd zs jp)).set jp.toNat (rd zs j) by unfold Sep.swp; rw [HJP.out]]; exact HD_6_1ab.out⟩⟩
     ·have c3b := decide_eq_false c3
      have hs := HST.out
      rw [if_neg c3] at hs
      have HS2 := Aside0.mk (hs.symm.trans HS.out)
      clear hs HST
      go_wp2
      have HD_4_0 := Aside0.mk (HO.out.drew)
      refine start_ (n := 17) (S := fun w' => w'.cell? ⟨g, j.toNat, none⟩ = some (.int .i64 (rd zs j)) ∧ w'.cell? ⟨g, jp.toNat, none⟩ = some (.int .i64 (rd zs jp))) (ds := []) #[false, false, false, false, false, false, false, false, false, false, false, false, false, false, false, false, false] (by kernel_rfl) rfl rfl ⟨(Sep.own_row_cell (0 : Int) HD_4_0.out 0 rfl j hj0 (by have := HZL.out; omega)).1, (Sep.own_row_cell (0 : Int) HD_4_0.out 0 rfl jp hjp0.1 (by have := HZL.out; omega)).1⟩ (fun hHeld => ?_)
      generalize wr.drew = wd_4_1 at HD_4_0 hHeld ⊢
      refine pure_ (i := 0) (N := some 18) (v := ?_) (a' := ?_) #[true, false, false, false, false, false, false, false, false, false, false, false, false, false, false, false, false] rfl rfl (by kernel_rfl) (fun _ _ _ h => h) (Or.inl ⟨by rfl, ?_⟩) ?_ ?_
      rotate_left
      ·intro w'
       go_simp
       with_reducible rfl
      rotate_left
      ·simp only [Act.put, List.setIfInBounds_toArray, List.set_cons_zero, List.set_cons_succ, i64_w, i32_w]
       rfl
      refine pure_ (i := 1) (N := some 19) (v := ?_) (a' := ?_) #[true, true, false, false, false, false, false, false, false, false, false, false, false, false, false, false, false] rfl rfl (by kernel_rfl) (fun _ _ _ h => h) (Or.inl ⟨by rfl, ?_⟩) ?_ ?_
      rotate_left
      ·intro w'
       go_simp
       with_reducible rfl
      rotate_left
      ·simp only [Act.put, List.setIfInBounds_toArray, List.set_cons_zero, List.set_cons_succ, i64_w, i32_w]
       rfl
      refine pure_ (i := 2) (N := some 20) (v := ?_) (a' := ?_) #[true, true, true, false, false, false, false, false, false, false, false, false, false, false, false, false, false] rfl rfl (by kernel_rfl) (fun _ _ _ h => h) (Or.inl ⟨by rfl, ?_⟩) ?_ ?_
      rotate_left
      ·intro w'
       go_simp
       with_reducible rfl
      rotate_left
      ·simp only [Act.put, List.setIfInBounds_toArray, List.set_cons_zero, List.set_cons_succ, i64_w, i32_w]
       rfl
      refine pure_ (i := 3) (N := some 21) (v := ?_) (a' := ?_) #[true, true, true, true, false, false, false, false, false, false, false, false, false, false, false, false, false] rfl rfl (by kernel_rfl) (fun _ _ _ h => h) (Or.inl ⟨by rfl, ?_⟩) ?_ ?_
      rotate_left
      ·intro w'
       go_simp
       with_reducible rfl
      rotate_left
      ·simp only [Act.put, List.setIfInBounds_toArray, List.set_cons_zero, List.set_cons_succ, i64_w, i32_w]
       rfl
      refine pure_ (i := 4) (N := some 22) (v := ?_) (a' := ?_) #[true, true, true, true, true, false, false, false, false, false, false, false, false, false, false, false, false] rfl rfl (by kernel_rfl) (fun _ _ _ h => h) (Or.inl ⟨by rfl, ?_⟩) ?_ ?_
      rotate_left
      ·intro w'
       go_simp
       with_reducible rfl
      rotate_left
      ·simp only [Act.put, List.setIfInBounds_toArray, List.set_cons_zero, List.set_cons_succ, i64_w, i32_w]
       rfl
      refine pure_ (i := 5) (N := some 23) (v := ?_) (a' := ?_) #[true, true, true, true, true, true, false, false, false, false, false, false, false, false, false, false, false] rfl rfl (by kernel_rfl) (fun _ _ _ h => h) (Or.inl ⟨by rfl, ?_⟩) ?_ ?_
      rotate_left
      ·intro w'
       go_simp
       with_reducible rfl
      rotate_left
      ·simp only [Act.put, List.setIfInBounds_toArray, List.set_cons_zero, List.set_cons_succ, i64_w, i32_w]
       rfl
      refine pure_ (i := 6) (N := some 24) (v := ?_) (a' := ?_) #[true, true, true, true, true, true, true, false, false, false, false, false, false, false, false, false, false] rfl rfl (by kernel_rfl) (fun _ _ _ h => h) (Or.inl ⟨by rfl, ?_⟩) ?_ ?_
      rotate_left
      ·intro w'
       go_simp
       with_reducible rfl
      rotate_left
      ·simp only [Act.put, List.setIfInBounds_toArray, List.set_cons_zero, List.set_cons_succ, i64_w, i32_w]
       rfl
      refine pure_ (i := 7) (N := some 25) (v := ?_) (a' := ?_) #[true, true, true, true, true, true, true, true, false, false, false, false, false, false, false, false, false] rfl rfl (by kernel_rfl) (fun _ _ _ h => h) (Or.inl ⟨by rfl, ?_⟩) ?_ ?_
      rotate_left
      ·intro w'
       go_simp
       with_reducible rfl
      rotate_left
      ·simp only [Act.put, List.setIfInBounds_toArray, List.set_cons_zero, List.set_cons_succ, i64_w, i32_w]
       rfl
      refine pure_ (i := 9) (N := some 27) (v := ?_) (a' := ?_) #[true, true, true, true, true, true, true, true, false, true, false, false, false, false, false, false, false] rfl rfl (by kernel_rfl) (fun _ _ _ h => h) (Or.inl ⟨by rfl, ?_⟩) ?_ ?_
      rotate_left
      ·intro w'
       go_simp
       with_reducible rfl
      rotate_left
      ·simp only [Act.put, List.setIfInBounds_toArray, List.set_cons_zero, List.set_cons_succ, i64_w, i32_w]
       rfl
      refine pure_ (i := 10) (N := some 28) (v := ?_) (a' := ?_) #[true, true, true, true, true, true, true, true, false, true, true, false, false, false, false, false, false] rfl rfl (by kernel_rfl) (fun _ _ _ h => h) (Or.inl ⟨by rfl, ?_⟩) ?_ ?_
      rotate_left
      ·intro w'
       go_simp
       with_reducible rfl
      rotate_left
      ·simp only [Act.put, List.setIfInBounds_toArray, List.set_cons_zero, List.set_cons_succ, i64_w, i32_w]
       rfl
      refine pure_ (i := 11) (N := some 29) (v := ?_) (a' := ?_) #[true, true, true, true, true, true, true, true, false, true, true, true, false, false, false, false, false] rfl rfl (by kernel_rfl) (fun _ _ _ h => h) (Or.inl ⟨by rfl, ?_⟩) ?_ ?_
      rotate_left
      ·intro w'
       go_simp
       with_reducible rfl
      rotate_left
      ·simp only [Act.put, List.setIfInBounds_toArray, List.set_cons_zero, List.set_cons_succ, i64_w, i32_w]
       rfl
      refine pure_ (i := 12) (N := some 30) (v := ?_) (a' := ?_) #[true, true, true, true, true, true, true, true, false, true, true, true, true, false, false, false, false] rfl rfl (by kernel_rfl) (fun _ _ _ h => h) (Or.inl ⟨by rfl, ?_⟩) ?_ ?_
      rotate_left
      ·intro w'
       go_simp
       with_reducible rfl
      rotate_left
      ·simp only [Act.put, List.setIfInBounds_toArray, List.set_cons_zero, List.set_cons_succ, i64_w, i32_w]
       rfl
      refine take_ (i := 8) (N := some 26) (v := ?_) (a' := ?_) #[true, true, true, true, true, true, true, true, true, true, true, true, true, false, false, false, false] rfl rfl (by kernel_rfl) (fun _ _ _ h => h) (Or.inl ⟨by rfl, ?_⟩) hHeld ?_ ?_
      rotate_left
      ·rintro w' ⟨s0, s1⟩
       go_simp
       with_reducible rfl
      rotate_left
      ·simp only [Act.put, List.setIfInBounds_toArray, List.set_cons_zero, List.set_cons_succ, i64_w, i32_w]
       rfl
      refine take_ (i := 13) (N := some 31) (v := ?_) (a' := ?_) #[true, true, true, true, true, true, true, true, true, true, true, true, true, true, false, false, false] rfl rfl (by kernel_rfl) (fun _ _ _ h => h) (Or.inl ⟨by rfl, ?_⟩) hHeld ?_ ?_
      rotate_left
      ·rintro w' ⟨s0, s1⟩
       go_simp
       with_reducible rfl
      rotate_left
      ·simp only [Act.put, List.setIfInBounds_toArray, List.set_cons_zero, List.set_cons_succ, i64_w, i32_w]
       rfl
      refine one_ (i := 14) (N := some 32) #[true, true, true, true, true, true, true, true, true, true, true, true, true, true, true, false, false] rfl rfl (by kernel_rfl) (by decide) (fun K hK => ?_)
      refine Sep.goesC_ (f := fv) hfn hnm hbd (#[.int .i64 (rd zs j), .int .i64 (rd zs jp)] ++ caps) (by rfl) rfl rfl rfl (by (try simp only [List.map_toArray, List.map_cons, List.map_nil]); first | done | rfl) ?_
      refine (HC.out zs _ _ _ HD_4_0.out HP.out HQ.out).mono ?_
      rintro e w_1 ⟨rfl, ho⟩
      refine ⟨_, rfl, ?_⟩
      have HO_1 := Aside0.mk ho
      clear ho
      refine hK.out _ _ ⟨(Sep.own_row_cell (0 : Int) HO_1.out 0 rfl j hj0 (by have := HZL.out; omega)).1, (Sep.own_row_cell (0 : Int) HO_1.out 0 rfl jp hjp0.1 (by have := HZL.out; omega)).1⟩ (fun hHeld => ?_)
      clear hK K
      refine norm_ (a' := ?_) ?_ ?_
      rotate_left
      ·show Act.put _ (some 32) _ = _
       simp only [Act.put, List.setIfInBounds_toArray, List.set_cons_zero, List.set_cons_succ, i64_w, i32_w]
       rfl
      refine pure_ (i := 15) (N := some 33) (v := ?_) (a' := ?_) #[true, true, true, true, true, true, true, true, true, true, true, true, true, true, true, true, false] rfl rfl (by kernel_rfl) (fun _ _ _ h => h) (Or.inl ⟨by rfl, ?_⟩) ?_ ?_
      rotate_left
      ·intro w'
       go_simp
       with_reducible rfl
      rotate_left
      ·simp only [Act.put, List.setIfInBounds_toArray, List.set_cons_zero, List.set_cons_succ, i64_w, i32_w]
       rfl
      refine pure_ (i := 16) (N := some 34) (v := ?_) (a' := ?_) #[true, true, true, true, true, true, true, true, true, true, true, true, true, true, true, true, true] rfl rfl (by kernel_rfl) (fun _ _ _ h => h) (Or.inl ⟨by rfl, ?_⟩) ?_ ?_
      rotate_left
      ·intro w'
       go_simp
       with_reducible rfl
      rotate_left
      ·simp only [Act.put, List.setIfInBounds_toArray, List.set_cons_zero, List.set_cons_succ, i64_w, i32_w]
       rfl
      refine done_ (by kernel_rfl) ?_
      go_wp2
      go_roundw
      case measure => simp only [intOf, hwi]; omega
      case rel => exact ⟨i + 1, by omega, by omega, by first | rfl | rw [hwi], ⟨by rw [isTo_step c xs i (by omega), ← HYS.out, ← HS2.out]; exact HO_1.out⟩⟩
    ·have c2b := decide_eq_false c2
     obtain rfl : j = 0 := by omega
     have HS2 := Aside0.mk (show zs = isSink c i.toNat ys from HS.out)
     go_wp2
     have HD_4_0 := Aside0.mk (HO.out.drew)
     refine start_ (n := 17) (S := fun w' => True) (ds := []) #[false, false, false, false, false, false, false, false, false, false, false, false, false, false, false, false, false] (by kernel_rfl) rfl rfl trivial (fun hHeld => ?_)
     generalize wr.drew = wd_4_1 at HD_4_0 ⊢
     refine pure_ (i := 0) (N := some 18) (v := ?_) (a' := ?_) #[true, false, false, false, false, false, false, false, false, false, false, false, false, false, false, false, false] rfl rfl (by kernel_rfl) (fun _ _ _ h => h) (Or.inl ⟨by rfl, ?_⟩) ?_ ?_
     rotate_left
     ·intro w'
      go_simp
      with_reducible rfl
     rotate_left
     ·simp only [Act.put, List.setIfInBounds_toArray, List.set_cons_zero, List.set_cons_succ, i64_w, i32_w]
      rfl
     refine pure_ (i := 1) (N := some 19) (v := ?_) (a' := ?_) #[true, true, false, false, false, false, false, false, false, false, false, false, false, false, false, false, false] rfl rfl (by kernel_rfl) (fun _ _ _ h => h) (Or.inl ⟨by rfl, ?_⟩) ?_ ?_
     rotate_left
     ·intro w'
      go_simp
      with_reducible rfl
     rotate_left
     ·simp only [Act.put, List.setIfInBounds_toArray, List.set_cons_zero, List.set_cons_succ, i64_w, i32_w]
      rfl
     refine pure_ (i := 2) (N := some 20) (v := ?_) (a' := ?_) #[true, true, true, false, false, false, false, false, false, false, false, false, false, false, false, false, false] rfl rfl (by kernel_rfl) (fun _ _ _ h => h) (Or.inl ⟨by rfl, ?_⟩) ?_ ?_
     rotate_left
     ·intro w'
      go_simp
      with_reducible rfl
     rotate_left
     ·simp only [Act.put, List.setIfInBounds_toArray, List.set_cons_zero, List.set_cons_succ, i64_w, i32_w]
      rfl
     refine pure_ (i := 3) (N := some 21) (v := ?_) (a' := ?_) #[true, true, true, true, false, false, false, false, false, false, false, false, false, false, false, false, false] rfl rfl (by kernel_rfl) (fun _ _ _ h => h) (Or.inl ⟨by rfl, ?_⟩) ?_ ?_
     rotate_left
     ·intro w'
      go_simp
      with_reducible rfl
     rotate_left
     ·simp only [Act.put, List.setIfInBounds_toArray, List.set_cons_zero, List.set_cons_succ, i64_w, i32_w]
      rfl
     refine pure_ (i := 4) (N := some 22) (v := undef) (a' := ?_) #[true, true, true, true, true, false, false, false, false, false, false, false, false, false, false, false, false] rfl rfl (by kernel_rfl) (fun _ _ _ h => h) (Or.inr ⟨by rfl, rfl⟩) ?_ ?_
     rotate_left
     ·simp only [Act.put, List.setIfInBounds_toArray, List.set_cons_zero, List.set_cons_succ, i64_w, i32_w]
      rfl
     refine pure_ (i := 5) (N := some 23) (v := undef) (a' := ?_) #[true, true, true, true, true, true, false, false, false, false, false, false, false, false, false, false, false] rfl rfl (by kernel_rfl) (fun _ _ _ h => h) (Or.inr ⟨by rfl, rfl⟩) ?_ ?_
     rotate_left
     ·simp only [Act.put, List.setIfInBounds_toArray, List.set_cons_zero, List.set_cons_succ, i64_w, i32_w]
      rfl
     refine pure_ (i := 6) (N := some 24) (v := undef) (a' := ?_) #[true, true, true, true, true, true, true, false, false, false, false, false, false, false, false, false, false] rfl rfl (by kernel_rfl) (fun _ _ _ h => h) (Or.inr ⟨by rfl, rfl⟩) ?_ ?_
     rotate_left
     ·simp only [Act.put, List.setIfInBounds_toArray, List.set_cons_zero, List.set_cons_succ, i64_w, i32_w]
      rfl
     refine pure_ (i := 7) (N := some 25) (v := undef) (a' := ?_) #[true, true, true, true, true, true, true, true, false, false, false, false, false, false, false, false, false] rfl rfl (by kernel_rfl) (fun _ _ _ h => h) (Or.inr ⟨by rfl, rfl⟩) ?_ ?_
     rotate_left
     ·simp only [Act.put, List.setIfInBounds_toArray, List.set_cons_zero, List.set_cons_succ, i64_w, i32_w]
      rfl
     refine pure_ (i := 8) (N := some 26) (v := undef) (a' := ?_) #[true, true, true, true, true, true, true, true, true, false, false, false, false, false, false, false, false] rfl rfl (by kernel_rfl) (fun _ _ _ h => h) (Or.inr ⟨by rfl, rfl⟩) ?_ ?_
     rotate_left
     ·simp only [Act.put, List.setIfInBounds_toArray, List.set_cons_zero, List.set_cons_succ, i64_w, i32_w]
      rfl
     refine pure_ (i := 9) (N := some 27) (v := undef) (a' := ?_) #[true, true, true, true, true, true, true, true, true, true, false, false, false, false, false, false, false] rfl rfl (by kernel_rfl) (fun _ _ _ h => h) (Or.inr ⟨by rfl, rfl⟩) ?_ ?_
     rotate_left
     ·simp only [Act.put, List.setIfInBounds_toArray, List.set_cons_zero, List.set_cons_succ, i64_w, i32_w]
      rfl
     refine pure_ (i := 10) (N := some 28) (v := undef) (a' := ?_) #[true, true, true, true, true, true, true, true, true, true, true, false, false, false, false, false, false] rfl rfl (by kernel_rfl) (fun _ _ _ h => h) (Or.inr ⟨by rfl, rfl⟩) ?_ ?_
     rotate_left
     ·simp only [Act.put, List.setIfInBounds_toArray, List.set_cons_zero, List.set_cons_succ, i64_w, i32_w]
      rfl
     refine pure_ (i := 11) (N := some 29) (v := undef) (a' := ?_) #[true, true, true, true, true, true, true, true, true, true, true, true, false, false, false, false, false] rfl rfl (by kernel_rfl) (fun _ _ _ h => h) (Or.inr ⟨by rfl, rfl⟩) ?_ ?_
     rotate_left
     ·simp only [Act.put, List.setIfInBounds_toArray, List.set_cons_zero, List.set_cons_succ, i64_w, i32_w]
      rfl
     refine pure_ (i := 12) (N := some 30) (v := undef) (a' := ?_) #[true, true, true, true, true, true, true, true, true, true, true, true, true, false, false, false, false] rfl rfl (by kernel_rfl) (fun _ _ _ h => h) (Or.inr ⟨by rfl, rfl⟩) ?_ ?_
     rotate_left
     ·simp only [Act.put, List.setIfInBounds_toArray, List.set_cons_zero, List.set_cons_succ, i64_w, i32_w]
      rfl
     refine pure_ (i := 13) (N := some 31) (v := undef) (a' := ?_) #[true, true, true, true, true, true, true, true, true, true, true, true, true, true, false, false, false] rfl rfl (by kernel_rfl) (fun _ _ _ h => h) (Or.inr ⟨by rfl, rfl⟩) ?_ ?_
     rotate_left
     ·simp only [Act.put, List.setIfInBounds_toArray, List.set_cons_zero, List.set_cons_succ, i64_w, i32_w]
      rfl
     refine pure_ (i := 14) (N := some 32) (v := undef) (a' := ?_) #[true, true, true, true, true, true, true, true, true, true, true, true, true, true, true, false, false] rfl rfl (by kernel_rfl) (fun _ _ _ h => h) (Or.inr ⟨by rfl, rfl⟩) ?_ ?_
     rotate_left
     ·simp only [Act.put, List.setIfInBounds_toArray, List.set_cons_zero, List.set_cons_succ, i64_w, i32_w]
      rfl
     refine pure_ (i := 15) (N := some 33) (v := undef) (a' := ?_) #[true, true, true, true, true, true, true, true, true, true, true, true, true, true, true, true, false] rfl rfl (by kernel_rfl) (fun _ _ _ h => h) (Or.inr ⟨by rfl, rfl⟩) ?_ ?_
     rotate_left
     ·simp only [Act.put, List.setIfInBounds_toArray, List.set_cons_zero, List.set_cons_succ, i64_w, i32_w]
      rfl
     refine pure_ (i := 16) (N := some 34) (v := ?_) (a' := ?_) #[true, true, true, true, true, true, true, true, true, true, true, true, true, true, true, true, true] rfl rfl (by kernel_rfl) (fun _ _ _ h => h) (Or.inl ⟨by rfl, ?_⟩) ?_ ?_
     rotate_left
     ·intro w'
      go_simp
      with_reducible rfl
     rotate_left
     ·simp only [Act.put, List.setIfInBounds_toArray, List.set_cons_zero, List.set_cons_succ, i64_w, i32_w]
      rfl
     refine done_ (by kernel_rfl) ?_
     go_wp2
     go_roundw
     case measure => simp only [intOf, hwi]; omega
     case rel => exact ⟨i + 1, by omega, by omega, by first | rfl | rw [hwi], ⟨by rw [isTo_step c xs i (by omega), ← HYS.out, ← HS2.out]; exact HD_4_0.out⟩⟩
  ·have c1b := decide_eq_false c1
   have hfin : isTo c xs i.toNat = isTo c xs n := by rw [show i.toNat = n by omega]
   rw [hfin] at HO
   clear hfin
   go_wp2
   go_end0
   exact ⟨rfl, HO.out⟩
open Go.Proofs.Ytbkighlfgaifeaa.Sep in
set_option maxHeartbeats 8000000 in
set_option maxRecDepth 100000 in
theorem sort_none (v fv : Value) (a b : Int) (_h : Aside0 (a = b)) (_ha : 0 ≤ a ∧ a ≤ 1000) (w : World) :
  Calls Try.prog 192 #[v, .int .i64 a, .int .i64 b, fv] w fun e w' => e = .returned (.tuple #[]) ∧ w' = w := by
 have hwa : wrap64 (a + 1) = a + 1 := by unfold wrap64; omega
 go_enter Try.func192, Try.ntmps192
 go_wp2
 go_loopw [8] (fun v8 wr => v8 = .int .i64 (a + 1) ∧ wr = w) (fun _ _ => 0)
 case atStart => exact ⟨by first | rfl | rw [hwa], rfl⟩
 case round =>
  obtain ⟨rfl, rfl⟩ := hrel
  have cb : decide (a + 1 < b) = false := decide_eq_false (by have := _h.out; omega)
  go_wp2
  go_end0
  exact ⟨rfl, rfl⟩
open Go.Proofs.Ytbkighlfgaifeaa.Sep in
set_option maxHeartbeats 8000000 in
set_option maxRecDepth 100000 in
theorem sort_stable (fv : FuncId) (fn : Func) (hfn : Try.prog.funcs[fv]? = some fn) (hnm : (fn.name == "runtime.NumGoroutine") = false) (hbd : fn.body.isSome = true) (caps : Array Value) (c : Int → Int → Int) (Pc : Int → Prop) (w0 : World) (F : List Sep.Item) (g n cap : Nat)
  (hcmp : ∀ (xs : List Int) (w : World) (p q : Int), Own w0 w (Sep.Item.row (Kd.int .i64) 3 (.slice (some ⟨g, 0, none⟩) n cap) xs :: F) → Pc p → Pc q → Calls Try.prog fv (#[.int .i64 p, .int .i64 q] ++ caps) w fun e w' => e = .returned (.int .i64 (c p q)) ∧ Own w0 w' (Sep.Item.row (Kd.int .i64) 3 (.slice (some ⟨g, 0, none⟩) n cap) xs :: F))
  (xs : List Int) (w : World) (_hx : ∀ y ∈ xs, Pc y) (_hn : xs.length = n) (_hb : 1 ≤ n ∧ n ≤ 20) (_h : Own w0 w (Sep.Item.row (Kd.int .i64) 3 (.slice (some ⟨g, 0, none⟩) n cap) xs :: F)) :
  Calls Try.prog 185 #[(.slice (some ⟨g, 0, none⟩) n cap), .int .i64 (n : Int), .func (.func fv) #[] caps] w fun e w' => e = .returned (.tuple #[]) ∧ Own w0 w' (Sep.Item.row (Kd.int .i64) 3 (.slice (some ⟨g, 0, none⟩) n cap) (isTo c xs n) :: F) := by
 have HO := Aside0.mk _h
 have HX := Aside0.mk _hx
 have HN := Aside0.mk _hn
 have HC := Aside0.mk hcmp
 have HB := Aside0.mk _hb
 clear _h _hx _hn hcmp _hb
 go_enter Try.func185, Try.ntmps185
 go_wp2
 go_loopw [7, 8] (fun v7 v8 wr => ∃ b : Bool, (b = true → n = 20) ∧ v7 = .int .i64 (if b then 20 else 0) ∧ v8 = .int .i64 (if b then 40 else 20) ∧ Aside0 (Own w0 wr (Sep.Item.row (Kd.int .i64) 3 (.slice (some ⟨g, 0, none⟩) n cap) (if b then isTo c xs n else xs) :: F))) (fun _ v8 _ => 100 - (intOf v8).toNat)
 case atStart => exact ⟨false, by simp, rfl, rfl, HO⟩
 case round =>
  obtain ⟨b, hb, rfl, rfl, HO1⟩ := hrel
  clear HO
  have HO := HO1
  clear HO1
  have hB := HB.out
  cases b with
  | false =>
   simp only [Bool.false_eq_true, ↓reduceIte] at HO ⊢
   by_cases c1 : n = 20
   ·have c1b : decide ((20 : Int) ≤ (n : Int)) = true := decide_eq_true (by omega)
    have HN20 := Aside0.mk (show (n : Int) = 20 by omega)
    have HNN := Aside0.mk c1
    clear c1 hB hb
    go_wp2_with (first | ((with_reducible refine gate_callee (f := 192) rfl ?_); refine goesL_ (some 18) rfl rfl Try.func192 (by kernel_rfl) rfl #[.slice ((some ⟨g, 0, none⟩)) n cap, .int .i64 0, .int .i64 20, .func (.func fv) #[] caps] rfl (by (try simp only [List.map_toArray, List.map_cons, List.map_nil]); first | done | rfl) ?_; have hc_ := sort_ins fv fn hfn hnm hbd caps c Pc w0 F g n cap HC.out xs _ HX.out HN.out (by have := HB.out; omega) HO.out; rw [HN20.out] at hc_; refine hc_.mono ?_; rintro e w_1 ⟨rfl, ho⟩; refine ⟨_, rfl, ?_⟩; have HO_1 := Aside0.mk ho; clear ho hc_))
    go_roundw
    case measure => simp [intOf, wrap64]
    case rel => exact ⟨true, fun _ => HNN.out, rfl, by first | rfl | simp [wrap64], HO_1⟩
   ·have c1b : decide ((20 : Int) ≤ (n : Int)) = false := decide_eq_false (by omega)
    clear hB hb
    go_wp2_with (first | ((with_reducible refine gate_callee (f := 192) rfl ?_); refine goesL_ (some 27) rfl rfl Try.func192 (by kernel_rfl) rfl #[.slice ((some ⟨g, 0, none⟩)) n cap, .int .i64 0, .int .i64 ((n : Int)), .func (.func fv) #[] caps] rfl (by (try simp only [List.map_toArray, List.map_cons, List.map_nil]); first | done | rfl) ?_; have hc_ := sort_ins fv fn hfn hnm hbd caps c Pc w0 F g n cap HC.out xs _ HX.out HN.out (by have := HB.out; omega) HO.out; refine hc_.mono ?_; rintro e w_1 ⟨rfl, ho⟩; refine ⟨_, rfl, ?_⟩; have HO_1 := Aside0.mk ho; clear ho hc_))
    (try simp only [Act.put, List.setIfInBounds_toArray, List.set_cons_zero, List.set_cons_succ])
    go_loopw [6] (fun v6 wr => v6 = .int .i64 20 ∧ Aside0 (Own w0 wr (Sep.Item.row (Kd.int .i64) 3 (.slice (some ⟨g, 0, none⟩) n cap) (isTo c xs n) :: F))) (fun _ _ => 0)
    case atStart => exact ⟨rfl, HO_1⟩
    case round =>
     clear HO
     obtain ⟨rfl, HO⟩ := hrel
     have cb : decide ((20 : Int) < (n : Int)) = false := decide_eq_false (by have := HB.out; omega)
     go_wp2
     go_end0
     exact ⟨rfl, HO.out⟩
  | true =>
   simp only [↓reduceIte] at HO ⊢
   have HN20 := Aside0.mk (show (n : Int) = 20 by have := hb rfl; omega)
   have c1b : decide ((40 : Int) ≤ (n : Int)) = false := decide_eq_false (by omega)
   clear hB hb
   go_wp2_with (first | ((with_reducible refine gate_callee (f := 192) rfl ?_); refine goesL_ (some 27) rfl rfl Try.func192 (by kernel_rfl) rfl #[.slice ((some ⟨g, 0, none⟩)) n cap, .int .i64 20, .int .i64 ((n : Int)), .func (.func fv) #[] caps] rfl (by (try simp only [List.map_toArray, List.map_cons, List.map_nil]); first | done | rfl) ?_; refine (sort_none _ _ 20 (n : Int) ⟨HN20.out.symm⟩ (by omega) _).mono ?_; rintro e w_1 ⟨rfl, rfl⟩; refine ⟨_, rfl, ?_⟩; have HO_1 := HO))
   (try simp only [Act.put, List.setIfInBounds_toArray, List.set_cons_zero, List.set_cons_succ])
   go_loopw [6] (fun v6 wr => v6 = .int .i64 20 ∧ Aside0 (Own w0 wr (Sep.Item.row (Kd.int .i64) 3 (.slice (some ⟨g, 0, none⟩) n cap) (isTo c xs n) :: F))) (fun _ _ => 0)
   case atStart => exact ⟨rfl, HO_1⟩
   case round =>
    clear HO
    obtain ⟨rfl, HO⟩ := hrel
    have cb : decide ((20 : Int) < (n : Int)) = false := decide_eq_false (by have := HB.out; omega)
    go_wp2
    go_end0
    exact ⟨rfl, HO.out⟩
open Go.Proofs.Ytbkighlfgaifeaa.Sep in
set_option maxHeartbeats 8000000 in
set_option maxRecDepth 100000 in
theorem sort_stableF (fv : FuncId) (fn : Func) (hfn : Try.prog.funcs[fv]? = some fn) (hnm : (fn.name == "runtime.NumGoroutine") = false) (hbd : fn.body.isSome = true) (caps : Array Value) (c : Int → Int → Int) (Pc : Int → Prop) (w0 : World) (F : List Sep.Item) (g n cap : Nat)
  (hcmp : ∀ (xs : List Int) (w : World) (p q : Int), Own w0 w (Sep.Item.row (Kd.int .i64) 3 (.slice (some ⟨g, 0, none⟩) n cap) xs :: F) → Pc p → Pc q → Calls Try.prog fv (#[.int .i64 p, .int .i64 q] ++ caps) w fun e w' => e = .returned (.int .i64 (c p q)) ∧ Own w0 w' (Sep.Item.row (Kd.int .i64) 3 (.slice (some ⟨g, 0, none⟩) n cap) xs :: F))
  (xs : List Int) (w : World) (_hx : ∀ y ∈ xs, Pc y) (_hn : xs.length = n) (_hb : 1 ≤ n ∧ n ≤ 20) (_h : Own w0 w (Sep.Item.row (Kd.int .i64) 3 (.slice (some ⟨g, 0, none⟩) n cap) xs :: F)) :
  Calls Try.prog 160 #[(.slice (some ⟨g, 0, none⟩) n cap), .func (.func fv) #[] caps] w fun e w' => e = .returned (.tuple #[]) ∧ Own w0 w' (Sep.Item.row (Kd.int .i64) 3 (.slice (some ⟨g, 0, none⟩) n cap) (isTo c xs n) :: F) := by
 have HO := Aside0.mk _h
 have HX := Aside0.mk _hx
 have HN := Aside0.mk _hn
 have HC := Aside0.mk hcmp
 have HB := Aside0.mk _hb
 clear _h _hx _hn hcmp _hb
 go_enter Try.func160, Try.ntmps160
 go_wp2_with (first | ((with_reducible refine gate_callee (f := 185) rfl ?_); refine goesL_ (some 8) rfl rfl Try.func185 (by kernel_rfl) rfl #[.slice ((some ⟨g, 0, none⟩)) n cap, .int .i64 ((n : Int)), .func (.func fv) #[] caps] rfl (by (try simp only [List.map_toArray, List.map_cons, List.map_nil]); first | done | rfl) ?_; refine (sort_stable fv fn hfn hnm hbd caps c Pc w0 F g n cap HC.out xs _ HX.out HN.out HB.out HO.out).mono ?_; rintro e w_1 ⟨rfl, ho⟩; refine ⟨_, rfl, ?_⟩; have HO_1 := Aside0.mk ho; clear ho))
 go_end0
 exact ⟨rfl, HO_1.out⟩
open Go.Proofs.Ytbkighlfgaifeaa.Sep in
set_option maxHeartbeats 8000000 in
set_option maxRecDepth 100000 in
theorem sort_stable0 (A : Option Addr) (c : Nat) (fv : Value) (w : World) :
  Calls Try.prog 185 #[.slice A 0 c, .int .i64 0, fv] w fun e w' => e = .returned (.tuple #[]) ∧ w' = w := by
 go_enter Try.func185, Try.ntmps185
 go_wp2
 go_loopw [7, 8] (fun v7 v8 wr => v7 = .int .i64 0 ∧ v8 = .int .i64 20 ∧ wr = w) (fun _ _ _ => 0)
 case atStart => exact ⟨rfl, rfl, rfl⟩
 case round =>
  obtain ⟨rfl, rfl, hw_⟩ := hrel
  have HW_ := Aside0.mk hw_
  clear hw_
  go_wp2_with (first | ((with_reducible refine gate_callee (f := 192) rfl ?_); refine goesL_ (some 27) rfl rfl Try.func192 (by kernel_rfl) rfl #[.slice A 0 c, .int .i64 0, .int .i64 0, fv] rfl (by (try simp only [List.map_toArray, List.map_cons, List.map_nil]); first | done | rfl) ?_; refine (sort_none _ _ 0 0 ⟨rfl⟩ (by omega) _).mono ?_; rintro e w' ⟨rfl, rfl⟩; refine ⟨_, rfl, ?_⟩))
  (try simp only [Act.put, List.setIfInBounds_toArray, List.set_cons_zero, List.set_cons_succ])
  go_loopw [6] (fun v6 wr' => v6 = .int .i64 20 ∧ Aside0 (wr' = w)) (fun _ _ => 0)
  case atStart => exact ⟨rfl, HW_⟩
  case round =>
   obtain ⟨rfl, HW2_⟩ := hrel
   go_wp2
   go_end0
   exact ⟨rfl, HW2_.out⟩
open Go.Proofs.Ytbkighlfgaifeaa.Sep in
set_option maxHeartbeats 8000000 in
set_option maxRecDepth 100000 in
theorem sort_stableF0 (A : Option Addr) (c : Nat) (fv : Value) (w : World) :
  Calls Try.prog 160 #[.slice A 0 c, fv] w fun e w' => e = .returned (.tuple #[]) ∧ w' = w := by
 go_enter Try.func160, Try.ntmps160
 go_wp2_with (first | ((with_reducible refine gate_callee (f := 185) rfl ?_); refine goesL_ (some 8) rfl rfl Try.func185 (by kernel_rfl) rfl #[.slice A 0 c, .int .i64 0, fv] rfl (by (try simp only [List.map_toArray, List.map_cons, List.map_nil]); first | done | rfl) ?_; refine (sort_stable0 _ _ _ _).mono ?_; rintro e w' ⟨rfl, rfl⟩; refine ⟨_, rfl, ?_⟩))
 go_end0
 exact ⟨rfl, rfl⟩
theorem impl_LeftEdge.at0 {w : World} {ad : Addr} {n : Nat} {xs : List (S32)} (h : Kd.C k32 w (some ad) n xs) (i : Int) (h0 : 0 ≤ i) (h1 : i < n) : w.cell? (ad.add (i.toNat * 2)) = some (.int .i64 (rd_T32 xs i).f0) ∧ w.cell? ⟨(ad.add (i.toNat * 2)).block, (ad.add (i.toNat * 2)).off + 1, none⟩ = some (.int .i64 (rd_T32 xs i).f1) := by
 obtain ⟨ad', e, h2⟩ := at_T32 h i h0 h1
 cases e
 exact h2
def impl_LeftEdge.c (l0 : List (S32)) (p q : Int) : Int := wrap64 ((rd_T32 l0 p).f0 - (rd_T32 l0 q).f0)
open Go.Proofs.Ytbkighlfgaifeaa.Sep in
set_option maxHeartbeats 8000000 in
set_option maxRecDepth 100000 in
theorem impl_LeftEdge.cmp (A0 : Option Addr) (c0 : Nat) (l0 : List (S32)) (w : World) (gl : Nat) (hr0 : Kd.C k32 w A0 l0.length l0) (Y : Sep.Item) (F : List Sep.Item) (w1 : World) (p q : Int) (_h : Own w w1 (Y :: Sep.Item.box gl 23 #[.slice A0 l0.length c0] :: F)) (hp : 0 ≤ p ∧ p < (l0.length : Int)) (hq : 0 ≤ q ∧ q < (l0.length : Int)) :
  Calls Try.prog 161 #[.int .i64 p, .int .i64 q, .pointer (some ⟨gl, 0, none⟩)] w1 fun e w' => e = .returned (.int .i64 (impl_LeftEdge.c l0 p q)) ∧ Own w w' (Y :: Sep.Item.box gl 23 #[.slice A0 l0.length c0] :: F) := by
 have HO := Aside0.mk _h
 have HR := Aside0.mk hr0
 clear _h hr0
 obtain ⟨adl, el, _⟩ := at_T32 HR.out p hp.1 hp.2
 cases el
 have p1 : (0 ≤ p) = True := eq_true hp.1
 have p2 : (0 ≤ q) = True := eq_true hq.1
 have q1 : (p < (l0.length : Int)) = True := eq_true hp.2
 have q2 : (q < (l0.length : Int)) = True := eq_true hq.2
 go_enter Try.func161, Try.ntmps161
 go_wp2
 have HD_1_0 := Aside0.mk (HO.out.drew)
 refine start_ (n := 12) (S := fun w' => w'.cell? ⟨gl, 0, none⟩ = some (.slice ((some adl)) l0.length c0) ∧ w'.cell? (adl.add (p.toNat * 2)) = some (.int .i64 (rd_T32 l0 p).f0) ∧ w'.cell? (adl.add (q.toNat * 2)) = some (.int .i64 (rd_T32 l0 q).f0)) (ds := []) #[false, false, false, false, false, false, false, false, false, false, false, false] (by kernel_rfl) rfl rfl ⟨(HD_1_0.out.cell 1 rfl 0 rfl), (impl_LeftEdge.at0 (Kd.C_below HR.out HD_1_0.out.base) p hp.1 hp.2).1, (impl_LeftEdge.at0 (Kd.C_below HR.out HD_1_0.out.base) q hq.1 hq.2).1⟩ (fun hHeld => ?_)
 generalize w1.drew = wd_1_1 at HD_1_0 hHeld ⊢
 refine pure_ (i := 1) (N := some 7) (v := ?_) (a' := ?_) #[false, true, false, false, false, false, false, false, false, false, false, false] rfl rfl (by kernel_rfl) (fun _ _ _ h => h) (Or.inl ⟨by rfl, ?_⟩) ?_ ?_
 rotate_left
 ·intro w'
  go_simp
  with_reducible rfl
 rotate_left
 ·simp only [Act.put, List.setIfInBounds_toArray, List.set_cons_zero, List.set_cons_succ, i64_w, i32_w]
  rfl
 refine pure_ (i := 6) (N := some 12) (v := ?_) (a' := ?_) #[false, true, false, false, false, false, true, false, false, false, false, false] rfl rfl (by kernel_rfl) (fun _ _ _ h => h) (Or.inl ⟨by rfl, ?_⟩) ?_ ?_
 rotate_left
 ·intro w'
  go_simp
  with_reducible rfl
 rotate_left
 ·simp only [Act.put, List.setIfInBounds_toArray, List.set_cons_zero, List.set_cons_succ, i64_w, i32_w]
  rfl
 refine take_ (i := 0) (N := some 6) (v := ?_) (a' := ?_) #[true, true, false, false, false, false, true, false, false, false, false, false] rfl rfl (by kernel_rfl) (fun _ _ _ h => h) (Or.inl ⟨by rfl, ?_⟩) hHeld ?_ ?_
 rotate_left
 ·rintro w' ⟨s0, s1, s2⟩
  go_simp
  with_reducible rfl
 rotate_left
 ·simp only [Act.put, List.setIfInBounds_toArray, List.set_cons_zero, List.set_cons_succ, i64_w, i32_w]
  rfl
 refine pure_ (i := 2) (N := some 8) (v := ?_) (a' := ?_) #[true, true, true, false, false, false, true, false, false, false, false, false] rfl rfl (by kernel_rfl) (fun _ _ _ h => h) (Or.inl ⟨by rfl, ?_⟩) ?_ ?_
 rotate_left
 ·intro w'
  go_simp
  with_reducible rfl
 rotate_left
 ·simp only [Act.put, List.setIfInBounds_toArray, List.set_cons_zero, List.set_cons_succ, i64_w, i32_w]
  rfl
 refine pure_ (i := 3) (N := some 9) (v := ?_) (a' := ?_) #[true, true, true, true, false, false, true, false, false, false, false, false] rfl rfl (by kernel_rfl) (fun _ _ _ h => h) (Or.inl ⟨by rfl, ?_⟩) ?_ ?_
 rotate_left
 ·intro w'
  go_simp
  with_reducible rfl
 rotate_left
 ·simp only [Act.put, List.setIfInBounds_toArray, List.set_cons_zero, List.set_cons_succ, i64_w, i32_w]
  rfl
 refine take_ (i := 4) (N := some 10) (v := ?_) (a' := ?_) #[true, true, true, true, true, false, true, false, false, false, false, false] rfl rfl (by kernel_rfl) (fun _ _ _ h => h) (Or.inl ⟨by rfl, ?_⟩) hHeld ?_ ?_
 rotate_left
 ·rintro w' ⟨s0, s1, s2⟩
  go_simp
  with_reducible rfl
 rotate_left
 ·simp only [Act.put, List.setIfInBounds_toArray, List.set_cons_zero, List.set_cons_succ, i64_w, i32_w]
  rfl
 refine take_ (i := 5) (N := some 11) (v := ?_) (a' := ?_) #[true, true, true, true, true, true, true, false, false, false, false, false] rfl rfl (by kernel_rfl) (fun _ _ _ h => h) (Or.inl ⟨by rfl, ?_⟩) hHeld ?_ ?_
 rotate_left
 ·rintro w' ⟨s0, s1, s2⟩
  go_simp
  with_reducible rfl
 rotate_left
 ·simp only [Act.put, List.setIfInBounds_toArray, List.set_cons_zero, List.set_cons_succ, i64_w, i32_w]
  rfl
 refine pure_ (i := 7) (N := some 13) (v := ?_) (a' := ?_) #[true, true, true, true, true, true, true, true, false, false, false, false] rfl rfl (by kernel_rfl) (fun _ _ _ h => h) (Or.inl ⟨by rfl, ?_⟩) ?_ ?_
 rotate_left
 ·intro w'
  go_simp
  with_reducible rfl
 rotate_left
 ·simp only [Act.put, List.setIfInBounds_toArray, List.set_cons_zero, List.set_cons_succ, i64_w, i32_w]
  rfl
 refine pure_ (i := 8) (N := some 14) (v := ?_) (a' := ?_) #[true, true, true, true, true, true, true, true, true, false, false, false] rfl rfl (by kernel_rfl) (fun _ _ _ h => h) (Or.inl ⟨by rfl, ?_⟩) ?_ ?_
 rotate_left
 ·intro w'
  go_simp
  with_reducible rfl
 rotate_left
 ·simp only [Act.put, List.setIfInBounds_toArray, List.set_cons_zero, List.set_cons_succ, i64_w, i32_w]
  rfl
 refine take_ (i := 9) (N := some 15) (v := ?_) (a' := ?_) #[true, true, true, true, true, true, true, true, true, true, false, false] rfl rfl (by kernel_rfl) (fun _ _ _ h => h) (Or.inl ⟨by rfl, ?_⟩) hHeld ?_ ?_
 rotate_left
 ·rintro w' ⟨s0, s1, s2⟩
  go_simp
  with_reducible rfl
 rotate_left
 ·simp only [Act.put, List.setIfInBounds_toArray, List.set_cons_zero, List.set_cons_succ, i64_w, i32_w]
  rfl
 refine pure_ (i := 10) (N := some 16) (v := ?_) (a' := ?_) #[true, true, true, true, true, true, true, true, true, true, true, false] rfl rfl (by kernel_rfl) (fun _ _ _ h => h) (Or.inl ⟨by rfl, ?_⟩) ?_ ?_
 rotate_left
 ·intro w'
  go_simp
  with_reducible rfl
 rotate_left
 ·simp only [Act.put, List.setIfInBounds_toArray, List.set_cons_zero, List.set_cons_succ, i64_w, i32_w]
  rfl
 refine pure_ (i := 11) (N := some 5) (v := ?_) (a' := ?_) #[true, true, true, true, true, true, true, true, true, true, true, true] rfl rfl (by kernel_rfl) (fun _ _ _ h => h) (Or.inl ⟨by rfl, ?_⟩) ?_ ?_
 rotate_left
 ·intro w'
  go_simp
  with_reducible rfl
 rotate_left
 ·simp only [Act.put, List.setIfInBounds_toArray, List.set_cons_zero, List.set_cons_succ, i64_w, i32_w]
  rfl
 refine done_ (by kernel_rfl) ?_
 go_wp2
 go_ret
 exact ⟨rfl, HD_1_0.out⟩
def impl_LeftEdge.ord (l0 : List (S32)) : List Int := Sep.isTo (impl_LeftEdge.c l0) (Sep.iota l0.length) l0.length
def impl_LeftEdge.F (l0 : List (S32)) (i : Int) : Int := (rd_T32 l0 i).f0
def impl_LeftEdge.G (l0 : List (S32)) (i : Int) : Int := (rd_T32 l0 i).f1
def impl_LeftEdge.run (l0 : List (S32)) (r : List Int) (st : List Int × List Int) : List Int × List Int := Sep.leRun (impl_LeftEdge.F l0) (impl_LeftEdge.G l0) r st
def impl_LeftEdge.f (k : Nat) (l0 : List (S32)) : Option (List Int × Bool) := (impl_AreChannelWires.f k l0).bind fun t => if t = true then (if l0.length ≤ 20 then some ((impl_LeftEdge.run l0 (impl_LeftEdge.ord l0) (List.replicate l0.length 0, [])).1, true) else none) else some ([], false)
theorem impl_LeftEdge.run_cons (l0 : List (S32)) (i : Int) (r : List Int) (o last : List Int) : impl_LeftEdge.run l0 (i :: r) (o, last) = impl_LeftEdge.run l0 r (o.set i.toNat (Sep.leTrack (impl_LeftEdge.F l0 i) last : Int), Sep.leLast (impl_LeftEdge.F l0 i) (impl_LeftEdge.G l0 i) last) := rfl
theorem impl_LeftEdge.drop_cons (q : List Int) (j : Int) (h0 : 0 ≤ j) (h1 : j < (q.length : Int)) : q.drop j.toNat = rd q j :: q.drop (j + 1).toNat := by
 have hl : j.toNat < q.length := by omega
 rw [List.drop_eq_getElem_cons hl, show (j + 1).toNat = j.toNat + 1 by omega]
 unfold rd
 rw [List.getD_eq_getElem?_getD, List.getElem?_eq_getElem hl]
 rfl
open Go.Proofs.Ytbkighlfgaifeaa.Sep in
set_option maxHeartbeats 16000000 in
set_option maxRecDepth 100000 in
theorem impl_LeftEdge.calls (k : Nat) (A0 : Option Addr) (c0 : Nat) (l0 : List (S32)) (r1 : List Int) (r2 : Bool) (w : World) (hr0 : Kd.C k32 w A0 l0.length l0) (hc0 : l0.length ≤ c0) (h : impl_LeftEdge.f k l0 = some (r1, r2)) :
  Calls Try.prog 75 #[.slice A0 l0.length c0] w fun e w' => ∃ v0_ : Value, e = .returned (.tuple #[v0_, .bool r2]) ∧ Kd.R (Kd.int .i64) 3 w' w.heap.size (fun _ => True) v0_ r1 ∧ Below w.heap.size w w' := by
 have HR := Aside0.mk hr0
 have HC0 := Aside0.mk hc0
 clear hr0 hc0
 unfold impl_LeftEdge.f at h
 obtain ⟨t, hA, h1⟩ := Option.bind_eq_some_iff.mp h
 clear h
 have HA := Aside0.mk hA
 clear hA
 cases t with
 | false =>
  have h2 : (([] : List Int), false) = (r1, r2) := Option.some.inj h1
  clear h1
  injection h2 with e1 e2
  subst e1
  subst e2
  go_enter Try.func75, Try.ntmps75
  go_wp2_with (first | ((with_reducible refine gate_dst (N := 1) rfl ?_); refine box_event ?hg (N := 1) ?hd (cs := #[.slice A0 l0.length c0]) (t := 23) ?hr ?_; (case hd => rfl); (case hg => rfl); (case hr => first | (go_simp; done) | (go_simp; rfl)); intro gl hg w_1 hbox hb; have HO_1 := Aside0.mk ((Sep.Own.nil w).add_box (T := 23) (cs := #[.slice A0 l0.length c0]) hg hbox hb); clear hg hbox hb; have z_1 : w_1.cell? ⟨gl, 0, none⟩ = some (.slice A0 l0.length c0) := (HO_1.out.cell 0 rfl 0 rfl)) | ((with_reducible refine gate_callee (f := 87) rfl ?_); refine goesL_ (some 12) rfl rfl Try.func87 (by kernel_rfl) rfl #[.slice A0 l0.length c0] rfl (by (try simp only [List.map_toArray, List.map_cons, List.map_nil]); first | done | rfl) ?_; (with_reducible refine (impl_AreChannelWires.calls k _ _ l0 false _ (by exact (Kd.C_below HR.out HO_1.out.base)) HC0.out HA.out).mono ?_); rintro e w_2 ⟨rfl, hb⟩; refine ⟨_, rfl, ?_⟩; have HO_2 := Aside0.mk (HO_1.out.below hb); clear hb))
  go_ret2
  exact ⟨_, rfl, Kd.R_nil _ _ _ _ _, HO_2.out.base⟩
 | true =>
  rw [if_pos rfl] at h1
  split at h1
  ·rename_i hn
   replace h1 := Option.some.inj h1
   injection h1 with e1 e2
   subst e2
   have HE := Aside0.mk e1
   have HN := Aside0.mk hn
   clear e1 hn
   go_enter Try.func75, Try.ntmps75
   go_wp2_with (first | ((with_reducible refine gate_dst (N := 1) rfl ?_); refine box_event ?hg (N := 1) ?hd (cs := #[.slice A0 l0.length c0]) (t := 23) ?hr ?_; (case hd => rfl); (case hg => rfl); (case hr => first | (go_simp; done) | (go_simp; rfl)); intro gl hg w_1 hbox hb; have HO_1 := Aside0.mk ((Sep.Own.nil w).add_box (T := 23) (cs := #[.slice A0 l0.length c0]) hg hbox hb); clear hg hbox hb; have z_1 : w_1.cell? ⟨gl, 0, none⟩ = some (.slice A0 l0.length c0) := (HO_1.out.cell 0 rfl 0 rfl)) | ((with_reducible refine gate_callee (f := 87) rfl ?_); refine goesL_ (some 12) rfl rfl Try.func87 (by kernel_rfl) rfl #[.slice A0 l0.length c0] rfl (by (try simp only [List.map_toArray, List.map_cons, List.map_nil]); first | done | rfl) ?_; (with_reducible refine (impl_AreChannelWires.calls k _ _ l0 true _ (by exact (Kd.C_below HR.out HO_1.out.base)) HC0.out HA.out).mono ?_); rintro e w_2 ⟨rfl, hb⟩; refine ⟨_, rfl, ?_⟩; have HO_2 := Aside0.mk (HO_1.out.below hb); clear hb) | ((with_reducible refine gate_dst (N := 14) rfl ?_); refine Sep.own_lit0 (Kd.int .i64) HO_2.out 3 ?hg (N := 14) ?hd ?hr ?_; (case hd => rfl); (case hg => rfl); (case hr => first | (go_simp; done) | (go_simp; rfl)); intro x_14 w_3 ho _; have HO_3 := Aside0.mk ho; clear ho; have z_2 : w_3.cell? ⟨gl, 0, none⟩ = some (.slice A0 l0.length c0) := (HO_3.out.cell 1 rfl 0 rfl)))
   (try simp only [Act.put, List.setIfInBounds_toArray, List.set_cons_zero, List.set_cons_succ])
   go_loopw [4, 17] (fun v4 v17 wr => ∃ (j : Int), 0 ≤ j ∧ j ≤ (l0.length : Int) ∧ v17 = .int .i64 j ∧ Aside0 (Own w wr [Item.row (Kd.int .i64) 3 (v4) ((Sep.iota j.toNat)), Item.box gl 23 #[.slice A0 l0.length c0]])) (fun _ v17 _ => l0.length - (intOf v17).toNat)
   case atStart => exact ⟨0, Int.le_refl _, by omega, rfl, ⟨((HO_3.out.front 1 rfl).front 1 rfl)⟩⟩
   case round =>
    obtain ⟨j, hj0, hj1, rfl, HO1⟩ := hrel
    clear HO_3
    have HO := HO1
    clear HO1
    by_cases c1 : j < (l0.length : Int)
    ·have c1b := decide_eq_true c1
     have hwj : wrap64 (j + 1) = j + 1 := by have := HN.out; unfold wrap64; omega
     go_wp2_with (first | ((with_reducible refine gate_dst (N := 23) rfl ?_); at_builtin; refine Sep.own_append (Kd.int .i64) HO.out 0 _ ((Sep.iota j.toNat)) 3 rfl rfl (.tmp 20) (.tmp 22) 24 (.int .i64 0) 8 rfl Try.underlying24 info3 rfl (by decide) (by omega) j [.int .i64 j] rfl rfl rfl (by have := HN.out; rw [Sep.iota_length]; omega) ?_; intro x_23 w_2 ho; have HO_2 := Aside0.mk ho; clear ho))
     go_roundw
     case measure => simp only [intOf, hwj]; omega
     case rel => exact ⟨j + 1, by omega, by omega, by first | rfl | rw [hwj], ⟨by rw [Sep.iota_succ j hj0]; exact HO_2.out⟩⟩
    ·have c1b := decide_eq_false c1
     obtain rfl : j = (l0.length : Int) := by omega
     have ho := HO.out
     rw [Int.toNat_natCast] at ho
     have HO1 := Aside0.mk ho
     clear ho HO
     have HO := HO1
     clear HO1
     by_cases hz : l0.length = 0
     ·obtain ⟨A4, c4, rfl⟩ := HO.out.row_slice 0 rfl
      have hl0 : l0 = [] := List.eq_nil_of_length_eq_zero hz
      subst hl0
      clear hz
      (try rw [show (Sep.iota (([] : List S32)).length).length = 0 from rfl] at HO ⊢)
      (try rw [show (Sep.iota 0).length = 0 from rfl])
      go_wp2_with (first | ((with_reducible refine gate_callee (f := 160) rfl ?_); refine goesL_ (some 27) rfl rfl Try.func160 (by kernel_rfl) rfl #[.slice A4 0 c4, .func (.func 161) #[] #[.pointer (some ⟨gl, 0, none⟩)]] rfl (by (try simp only [List.map_toArray, List.map_cons, List.map_nil]); first | done | rfl) ?_; refine (sort_stableF0 _ _ _ _).mono ?_; rintro e w_1 ⟨rfl, rfl⟩; refine ⟨_, rfl, ?_⟩; have HO_1 := HO; have z_3 : w_1.cell? ⟨gl, 0, none⟩ = some (.slice A0 0 c0) := (HO_1.out.cell 1 rfl 0 rfl)) | ((with_reducible refine gate_dst (N := 30) rfl ?_); refine Sep.own_make (Kd.int .i64) HO_1.out 3 rfl (N := 30) rfl 24 _ _ rfl ((0 : Int)) rfl rfl Try.underlying24 (.int .i64 0) 8 info3 rfl (by decide) (by omega) 0 rfl (by omega) (by simp) ?_; intro x_30 w_2 ho _; obtain ⟨A_30, c_30, rfl⟩ := ho.row_slice 0 rfl; have HO_2 := Aside0.mk ho; clear ho) | ((with_reducible refine gate_dst (N := 31) rfl ?_); refine Sep.own_lit0 (Kd.int .i64) HO_2.out 3 ?hg (N := 31) ?hd ?hr ?_; (case hd => rfl); (case hg => rfl); (case hr => first | (go_simp; done) | (go_simp; rfl)); intro x_31 w_3 ho _; have HO_3 := Aside0.mk ho; clear ho))
      (try simp only [Act.put, List.setIfInBounds_toArray, List.set_cons_zero, List.set_cons_succ])
      go_loopw [7, 34] (fun v7 v34 wr => v34 = .int .i64 0 ∧ Aside0 (Own w wr [Item.row (Kd.int .i64) 3 (.slice A_30 (((List.replicate ((0 : Int)).toNat 0)).length) c_30) ((List.replicate ((0 : Int)).toNat 0))])) (fun _ _ _ => 0)
      case atStart => exact ⟨rfl, ⟨((((HO_3.out.front 1 rfl).front 3 rfl).front 3 rfl).front 3 rfl).tail.tail.tail⟩⟩
      case round =>
       clear HO
       obtain ⟨rfl, HO2⟩ := hrel
       have he := HE.out
       go_wp2
       go_ret2
       obtain ⟨P_, hP⟩ := HO2.out.get 0 rfl
       subst he
       exact ⟨_, rfl, Kd.R_mono hP (fun _ _ => trivial), HO2.out.base⟩
     ·obtain ⟨g4, c4, rfl⟩ := Sep.own_row_form HO.out 0 rfl (by rw [Sep.iota_length]; omega)
      rw [Sep.iota_length] at HO
      have HZ := Aside0.mk (show 1 ≤ l0.length ∧ l0.length ≤ 20 by have := HN.out; omega)
      clear hz
      (try rw [Sep.iota_length])
      have HOL := Aside0.mk (show (impl_LeftEdge.ord l0).length = l0.length from by unfold impl_LeftEdge.ord; rw [Sep.isTo_length, Sep.iota_length])
      have HOM := Aside0.mk (show ∀ q ∈ impl_LeftEdge.ord l0, 0 ≤ q ∧ q < (l0.length : Int) from Sep.isTo_all _ _ (fun y hy => Sep.iota_mem hy) _ (by rw [Sep.iota_length]; exact Nat.le_refl _))
      go_wp2_with (first | ((with_reducible refine gate_callee (f := 160) rfl ?_); refine goesL_ (some 27) rfl rfl Try.func160 (by kernel_rfl) rfl #[.slice ((some ⟨g4, 0, none⟩)) l0.length c4, .func (.func 161) #[] #[.pointer (some ⟨gl, 0, none⟩)]] rfl (by (try simp only [List.map_toArray, List.map_cons, List.map_nil]); first | done | rfl) ?_; refine (sort_stableF 161 Try.f161 Try.func161 (by kernel_rfl) rfl #[.pointer (some ⟨gl, 0, none⟩)] (impl_LeftEdge.c l0) (fun q => 0 ≤ q ∧ q < (l0.length : Int)) w [Item.box gl 23 #[.slice A0 l0.length c0]] g4 l0.length c4 (fun xs w2 p q ho hp hq => impl_LeftEdge.cmp A0 c0 l0 w gl HR.out _ [] w2 p q ho hp hq) (Sep.iota l0.length) _ (fun y hy => Sep.iota_mem hy) (Sep.iota_length _) HZ.out HO.out).mono ?_; rintro e w_1 ⟨rfl, ho⟩; refine ⟨_, rfl, ?_⟩; have HO_1 := Aside0.mk ho; clear ho; have z_3 : w_1.cell? ⟨gl, 0, none⟩ = some (.slice A0 l0.length c0) := (HO_1.out.cell 1 rfl 0 rfl)) | ((with_reducible refine gate_dst (N := 30) rfl ?_); refine Sep.own_make (Kd.int .i64) HO_1.out 3 rfl (N := 30) rfl 24 _ _ rfl ((l0.length : Int)) rfl rfl Try.underlying24 (.int .i64 0) 8 info3 rfl (by decide) (by omega) 0 rfl (by omega) (by have := HZ.out; simp; omega) ?_; intro x_30 w_2 ho _; rw [show (List.replicate ((l0.length : Int)).toNat (0 : Int)) = (List.replicate l0.length 0) from by rw [Int.toNat_natCast]] at ho; obtain ⟨g_30, c_30, rfl⟩ := Sep.own_row_form ho 0 rfl (by have := HZ.out; simp; omega); have HO_2 := Aside0.mk ho; clear ho) | ((with_reducible refine gate_dst (N := 31) rfl ?_); refine Sep.own_lit0 (Kd.int .i64) HO_2.out 3 ?hg (N := 31) ?hd ?hr ?_; (case hd => rfl); (case hg => rfl); (case hr => first | (go_simp; done) | (go_simp; rfl)); intro x_31 w_3 ho _; have HO_3 := Aside0.mk ho; clear ho))
      (try simp only [Act.put, List.setIfInBounds_toArray, List.set_cons_zero, List.set_cons_succ])
      go_loopw [7, 34] (fun v7 v34 wr => ∃ (j : Int) (os ls : List Int), 0 ≤ j ∧ j ≤ (l0.length : Int) ∧ v34 = .int .i64 j ∧ Aside0 ((impl_LeftEdge.run l0 ((impl_LeftEdge.ord l0).drop j.toNat) (os, ls)).1 = r1) ∧ Aside0 (os.length = l0.length) ∧ Aside0 ((ls.length : Int) ≤ j) ∧ Aside0 (Own w wr [Item.row (Kd.int .i64) 3 (v7) (ls), Item.row (Kd.int .i64) 3 (.slice ((some ⟨g_30, 0, none⟩)) l0.length c_30) (os), Item.row (Kd.int .i64) 3 (.slice ((some ⟨g4, 0, none⟩)) l0.length c4) ((impl_LeftEdge.ord l0)), Item.box gl 23 #[.slice A0 l0.length c0]])) (fun _ v34 _ => l0.length - (intOf v34).toNat)
      case atStart => exact ⟨0, List.replicate l0.length 0, [], Int.le_refl _, by omega, rfl, HE, ⟨by simp⟩, ⟨by simp⟩, ⟨by have e := ((((HO_3.out.front 3 rfl).front 3 rfl).front 3 rfl).front 3 rfl); (try rw [List.length_replicate] at e); exact e⟩⟩
      case round =>
       clear HE HO HO_3
       obtain ⟨j, os, ls, hj0, hj1, rfl, HE, HOS, HLS, HO⟩ := hrel
       by_cases c2 : j < (l0.length : Int)
       ·have c2b := decide_eq_true c2
        have hwj : wrap64 (j + 1) = j + 1 := by have := HN.out; unfold wrap64; omega
        obtain ⟨Al, cl, rfl⟩ := HO.out.row_slice 0 rfl
        have hol := HOL.out
        have hi := HOM.out _ (Sep.rd_mem (xs := impl_LeftEdge.ord l0) (j := j) hj0 (by omega))
        have hdc := impl_LeftEdge.drop_cons (impl_LeftEdge.ord l0) j hj0 (by omega)
        have he := HE.out
        rw [hdc, impl_LeftEdge.run_cons] at he
        obtain ⟨i, hie⟩ : ∃ i, i = rd (impl_LeftEdge.ord l0) j := ⟨_, rfl⟩
        rw [← hie] at hi he
        have HIE := Aside0.mk hie
        have HE2 := Aside0.mk he
        have hjo : j < ((impl_LeftEdge.ord l0).length : Int) := by omega
        have HJO := Aside0.mk hjo
        obtain ⟨adl, el, _⟩ := at_T32 HR.out i hi.1 hi.2
        cases el
        have p1 : (0 ≤ j) = True := eq_true hj0
        have p2 : (0 ≤ i) = True := eq_true hi.1
        have q1 : (j < (l0.length : Int)) = True := eq_true c2
        have q2 : (i < (l0.length : Int)) = True := eq_true hi.2
        have HI := Aside0.mk hi
        clear hol hi hdc he hie hjo HE
        have z_4 : wr.cell? ⟨g4, j.toNat, none⟩ = some (.int .i64 i) := (by have e := (Sep.own_row_cell (0 : Int) HO.out 2 rfl j hj0 HJO.out).1; rw [HIE.out]; exact e)
        go_wp2
        go_loopw [10] (fun v10 wr => ∃ (t : Int), 0 ≤ t ∧ t ≤ (ls.length : Int) ∧ v10 = .int .i64 t ∧ Aside0 (Sep.leTrack (impl_LeftEdge.F l0 i) (ls.drop t.toNat) + t.toNat = Sep.leTrack (impl_LeftEdge.F l0 i) ls) ∧ Aside0 (Own w wr [Item.row (Kd.int .i64) 3 (.slice Al ls.length cl) (ls), Item.row (Kd.int .i64) 3 (.slice ((some ⟨g_30, 0, none⟩)) l0.length c_30) (os), Item.row (Kd.int .i64) 3 (.slice ((some ⟨g4, 0, none⟩)) l0.length c4) ((impl_LeftEdge.ord l0)), Item.box gl 23 #[.slice ((some adl)) l0.length c0]])) (fun v10 _ => ls.length - (intOf v10).toNat)
        case atStart => exact ⟨0, Int.le_refl _, by omega, rfl, ⟨rfl⟩, HO⟩
        case round =>
         clear HO
         obtain ⟨t, ht0, ht1, rfl, HT, HO⟩ := hrel
         have hls := HLS.out
         have hwt : wrap64 (t + 1) = t + 1 := by have := HN.out; unfold wrap64; omega
         have HLB := Aside0.mk (show ls.length ≤ 20 by have := HN.out; omega)
         clear hls
         by_cases c3 : t < (ls.length : Int)
         ·have c3b := decide_eq_true c3
          obtain ⟨gt_, ct_, hf_⟩ := Sep.own_row_form HO.out 0 rfl (show 0 < ls.length by omega)
          injection hf_ with hf1 hf2 hf3
          subst hf1
          clear hf2 hf3
          have hld := Sep.leTrack_drop (impl_LeftEdge.F l0 i) ls t ht0 c3
          have HLD := Aside0.mk hld
          clear hld
          have p3 : (0 ≤ t) = True := eq_true ht0
          have q3 : (t < (ls.length : Int)) = True := eq_true c3
          by_cases cw4 : rd ls t ≥ (rd_T32 l0 i).f0
          ·have c4b := decide_eq_true cw4
           have hld := HLD.out
           rw [if_pos (show rd ls t ≥ impl_LeftEdge.F l0 i from cw4)] at hld
           have HT2 := Aside0.mk (show Sep.leTrack (impl_LeftEdge.F l0 i) (ls.drop (t + 1).toNat) + (t + 1).toNat = Sep.leTrack (impl_LeftEdge.F l0 i) ls from by have := HT.out; omega)
           clear hld
           go_wp2
           have HD_16_4 := Aside0.mk (HO.out.drew)
           refine start_ (n := 16) (S := fun w' => w'.cell? ⟨gt_, t.toNat, none⟩ = some (.int .i64 (rd ls t)) ∧ w'.cell? ⟨gl, 0, none⟩ = some (.slice ((some adl)) l0.length c0) ∧ w'.cell? (adl.add (i.toNat * 2)) = some (.int .i64 (rd_T32 l0 i).f0)) (ds := []) #[false, false, false, false, false, false, false, false, false, false, false, false, false, false, false, false] (by kernel_rfl) rfl rfl ⟨(Sep.own_row_cell (0 : Int) HD_16_4.out 0 rfl t ht0 c3).1, (HD_16_4.out.cell 3 rfl 0 rfl), (impl_LeftEdge.at0 (Kd.C_below HR.out HD_16_4.out.base) i HI.out.1 HI.out.2).1⟩ (fun hHeld => ?_)
           generalize wr.drew = wd_16_5 at HD_16_4 hHeld ⊢
           refine pure_ (i := 0) (N := some 38) (v := ?_) (a' := ?_) #[true, false, false, false, false, false, false, false, false, false, false, false, false, false, false, false] rfl rfl (by kernel_rfl) (fun _ _ _ h => h) (Or.inl ⟨by rfl, ?_⟩) ?_ ?_
           rotate_left
           ·intro w'
            go_simp
            with_reducible rfl
           rotate_left
           ·simp only [Act.put, List.setIfInBounds_toArray, List.set_cons_zero, List.set_cons_succ, i64_w, i32_w]
            rfl
           refine pure_ (i := 1) (N := some 39) (v := ?_) (a' := ?_) #[true, true, false, false, false, false, false, false, false, false, false, false, false, false, false, false] rfl rfl (by kernel_rfl) (fun _ _ _ h => h) (Or.inl ⟨by rfl, ?_⟩) ?_ ?_
           rotate_left
           ·intro w'
            go_simp
            with_reducible rfl
           rotate_left
           ·simp only [Act.put, List.setIfInBounds_toArray, List.set_cons_zero, List.set_cons_succ, i64_w, i32_w]
            rfl
           refine pure_ (i := 2) (N := some 40) (v := ?_) (a' := ?_) #[true, true, true, false, false, false, false, false, false, false, false, false, false, false, false, false] rfl rfl (by kernel_rfl) (fun _ _ _ h => h) (Or.inl ⟨by rfl, ?_⟩) ?_ ?_
           rotate_left
           ·intro w'
            go_simp
            with_reducible rfl
           rotate_left
           ·simp only [Act.put, List.setIfInBounds_toArray, List.set_cons_zero, List.set_cons_succ, i64_w, i32_w]
            rfl
           refine pure_ (i := 3) (N := some 41) (v := ?_) (a' := ?_) #[true, true, true, true, false, false, false, false, false, false, false, false, false, false, false, false] rfl rfl (by kernel_rfl) (fun _ _ _ h => h) (Or.inl ⟨by rfl, ?_⟩) ?_ ?_
           rotate_left
           ·intro w'
            go_simp
            with_reducible rfl
           rotate_left
           ·simp only [Act.put, List.setIfInBounds_toArray, List.set_cons_zero, List.set_cons_succ, i64_w, i32_w]
            rfl
           refine pure_ (i := 4) (N := some 42) (v := ?_) (a' := ?_) #[true, true, true, true, true, false, false, false, false, false, false, false, false, false, false, false] rfl rfl (by kernel_rfl) (fun _ _ _ h => h) (Or.inl ⟨by rfl, ?_⟩) ?_ ?_
           rotate_left
           ·intro w'
            go_simp
            with_reducible rfl
           rotate_left
           ·simp only [Act.put, List.setIfInBounds_toArray, List.set_cons_zero, List.set_cons_succ, i64_w, i32_w]
            rfl
           refine pure_ (i := 5) (N := some 43) (v := ?_) (a' := ?_) #[true, true, true, true, true, true, false, false, false, false, false, false, false, false, false, false] rfl rfl (by kernel_rfl) (fun _ _ _ h => h) (Or.inl ⟨by rfl, ?_⟩) ?_ ?_
           rotate_left
           ·intro w'
            go_simp
            with_reducible rfl
           rotate_left
           ·simp only [Act.put, List.setIfInBounds_toArray, List.set_cons_zero, List.set_cons_succ, i64_w, i32_w]
            rfl
           refine pure_ (i := 6) (N := some 44) (v := ?_) (a' := ?_) #[true, true, true, true, true, true, true, false, false, false, false, false, false, false, false, false] rfl rfl (by kernel_rfl) (fun _ _ _ h => h) (Or.inl ⟨by rfl, ?_⟩) ?_ ?_
           rotate_left
           ·intro w'
            go_simp
            with_reducible rfl
           rotate_left
           ·simp only [Act.put, List.setIfInBounds_toArray, List.set_cons_zero, List.set_cons_succ, i64_w, i32_w]
            rfl
           refine pure_ (i := 7) (N := some 45) (v := ?_) (a' := ?_) #[true, true, true, true, true, true, true, true, false, false, false, false, false, false, false, false] rfl rfl (by kernel_rfl) (fun _ _ _ h => h) (Or.inl ⟨by rfl, ?_⟩) ?_ ?_
           rotate_left
           ·intro w'
            go_simp
            with_reducible rfl
           rotate_left
           ·simp only [Act.put, List.setIfInBounds_toArray, List.set_cons_zero, List.set_cons_succ, i64_w, i32_w]
            rfl
           refine pure_ (i := 10) (N := some 48) (v := ?_) (a' := ?_) #[true, true, true, true, true, true, true, true, false, false, true, false, false, false, false, false] rfl rfl (by kernel_rfl) (fun _ _ _ h => h) (Or.inl ⟨by rfl, ?_⟩) ?_ ?_
           rotate_left
           ·intro w'
            go_simp
            with_reducible rfl
           rotate_left
           ·simp only [Act.put, List.setIfInBounds_toArray, List.set_cons_zero, List.set_cons_succ, i64_w, i32_w]
            rfl
           refine take_ (i := 8) (N := some 46) (v := ?_) (a' := ?_) #[true, true, true, true, true, true, true, true, true, false, true, false, false, false, false, false] rfl rfl (by kernel_rfl) (fun _ _ _ h => h) (Or.inl ⟨by rfl, ?_⟩) hHeld ?_ ?_
           rotate_left
           ·rintro w' ⟨s0, s1, s2⟩
            go_simp
            with_reducible rfl
           rotate_left
           ·simp only [Act.put, List.setIfInBounds_toArray, List.set_cons_zero, List.set_cons_succ, i64_w, i32_w]
            rfl
           refine take_ (i := 9) (N := some 47) (v := ?_) (a' := ?_) #[true, true, true, true, true, true, true, true, true, true, true, false, false, false, false, false] rfl rfl (by kernel_rfl) (fun _ _ _ h => h) (Or.inl ⟨by rfl, ?_⟩) hHeld ?_ ?_
           rotate_left
           ·rintro w' ⟨s0, s1, s2⟩
            go_simp
            with_reducible rfl
           rotate_left
           ·simp only [Act.put, List.setIfInBounds_toArray, List.set_cons_zero, List.set_cons_succ, i64_w, i32_w]
            rfl
           refine pure_ (i := 11) (N := some 49) (v := ?_) (a' := ?_) #[true, true, true, true, true, true, true, true, true, true, true, true, false, false, false, false] rfl rfl (by kernel_rfl) (fun _ _ _ h => h) (Or.inl ⟨by rfl, ?_⟩) ?_ ?_
           rotate_left
           ·intro w'
            go_simp
            with_reducible rfl
           rotate_left
           ·simp only [Act.put, List.setIfInBounds_toArray, List.set_cons_zero, List.set_cons_succ, i64_w, i32_w]
            rfl
           refine pure_ (i := 12) (N := some 50) (v := ?_) (a' := ?_) #[true, true, true, true, true, true, true, true, true, true, true, true, true, false, false, false] rfl rfl (by kernel_rfl) (fun _ _ _ h => h) (Or.inl ⟨by rfl, ?_⟩) ?_ ?_
           rotate_left
           ·intro w'
            go_simp
            with_reducible rfl
           rotate_left
           ·simp only [Act.put, List.setIfInBounds_toArray, List.set_cons_zero, List.set_cons_succ, i64_w, i32_w]
            rfl
           refine take_ (i := 13) (N := some 51) (v := ?_) (a' := ?_) #[true, true, true, true, true, true, true, true, true, true, true, true, true, true, false, false] rfl rfl (by kernel_rfl) (fun _ _ _ h => h) (Or.inl ⟨by rfl, ?_⟩) hHeld ?_ ?_
           rotate_left
           ·rintro w' ⟨s0, s1, s2⟩
            go_simp
            with_reducible rfl
           rotate_left
           ·simp only [Act.put, List.setIfInBounds_toArray, List.set_cons_zero, List.set_cons_succ, i64_w, i32_w]
            rfl
           refine pure_ (i := 14) (N := some 52) (v := ?_) (a' := ?_) #[true, true, true, true, true, true, true, true, true, true, true, true, true, true, true, false] rfl rfl (by kernel_rfl) (fun _ _ _ h => h) (Or.inl ⟨by rfl, ?_⟩) ?_ ?_
           rotate_left
           ·intro w'
            go_simp
            with_reducible rfl
           rotate_left
           ·simp only [Act.put, List.setIfInBounds_toArray, List.set_cons_zero, List.set_cons_succ, i64_w, i32_w]
            rfl
           refine pure_ (i := 15) (N := some 53) (v := ?_) (a' := ?_) #[true, true, true, true, true, true, true, true, true, true, true, true, true, true, true, true] rfl rfl (by kernel_rfl) (fun _ _ _ h => h) (Or.inl ⟨by rfl, ?_⟩) ?_ ?_
           rotate_left
           ·intro w'
            go_simp
            with_reducible rfl
           rotate_left
           ·simp only [Act.put, List.setIfInBounds_toArray, List.set_cons_zero, List.set_cons_succ, i64_w, i32_w]
            rfl
           refine done_ (by kernel_rfl) ?_
           go_wp2
           go_roundw
           case measure => simp only [intOf, hwt]; omega
           case rel => exact ⟨t + 1, by omega, by omega, by first | rfl | rw [hwt], HT2, HD_16_4⟩
          ·have c4b := decide_eq_false cw4
           have hld := HLD.out
           rw [if_neg (show ¬ rd ls t ≥ impl_LeftEdge.F l0 i from cw4)] at hld
           have HT2 := Aside0.mk (show Sep.leTrack (impl_LeftEdge.F l0 i) ls = t.toNat from by have := HT.out; omega)
           clear hld
           have c5b : ((t : Int) == (ls.length : Int)) = false := beq_eq_false_iff_ne.mpr (by omega)
           go_wp2
           have HD_16_4 := Aside0.mk (HO.out.drew)
           refine start_ (n := 16) (S := fun w' => w'.cell? ⟨gt_, t.toNat, none⟩ = some (.int .i64 (rd ls t)) ∧ w'.cell? ⟨gl, 0, none⟩ = some (.slice ((some adl)) l0.length c0) ∧ w'.cell? (adl.add (i.toNat * 2)) = some (.int .i64 (rd_T32 l0 i).f0)) (ds := []) #[false, false, false, false, false, false, false, false, false, false, false, false, false, false, false, false] (by kernel_rfl) rfl rfl ⟨(Sep.own_row_cell (0 : Int) HD_16_4.out 0 rfl t ht0 c3).1, (HD_16_4.out.cell 3 rfl 0 rfl), (impl_LeftEdge.at0 (Kd.C_below HR.out HD_16_4.out.base) i HI.out.1 HI.out.2).1⟩ (fun hHeld => ?_)
           generalize wr.drew = wd_16_5 at HD_16_4 hHeld ⊢
           refine pure_ (i := 0) (N := some 38) (v := ?_) (a' := ?_) #[true, false, false, false, false, false, false, false, false, false, false, false, false, false, false, false] rfl rfl (by kernel_rfl) (fun _ _ _ h => h) (Or.inl ⟨by rfl, ?_⟩) ?_ ?_
           rotate_left
           ·intro w'
            go_simp
            with_reducible rfl
           rotate_left
           ·simp only [Act.put, List.setIfInBounds_toArray, List.set_cons_zero, List.set_cons_succ, i64_w, i32_w]
            rfl
           refine pure_ (i := 1) (N := some 39) (v := ?_) (a' := ?_) #[true, true, false, false, false, false, false, false, false, false, false, false, false, false, false, false] rfl rfl (by kernel_rfl) (fun _ _ _ h => h) (Or.inl ⟨by rfl, ?_⟩) ?_ ?_
           rotate_left
           ·intro w'
            go_simp
            with_reducible rfl
           rotate_left
           ·simp only [Act.put, List.setIfInBounds_toArray, List.set_cons_zero, List.set_cons_succ, i64_w, i32_w]
            rfl
           refine pure_ (i := 2) (N := some 40) (v := ?_) (a' := ?_) #[true, true, true, false, false, false, false, false, false, false, false, false, false, false, false, false] rfl rfl (by kernel_rfl) (fun _ _ _ h => h) (Or.inl ⟨by rfl, ?_⟩) ?_ ?_
           rotate_left
           ·intro w'
            go_simp
            with_reducible rfl
           rotate_left
           ·simp only [Act.put, List.setIfInBounds_toArray, List.set_cons_zero, List.set_cons_succ, i64_w, i32_w]
            rfl
           refine pure_ (i := 3) (N := some 41) (v := ?_) (a' := ?_) #[true, true, true, true, false, false, false, false, false, false, false, false, false, false, false, false] rfl rfl (by kernel_rfl) (fun _ _ _ h => h) (Or.inl ⟨by rfl, ?_⟩) ?_ ?_
           rotate_left
           ·intro w'
            go_simp
            with_reducible rfl
           rotate_left
           ·simp only [Act.put, List.setIfInBounds_toArray, List.set_cons_zero, List.set_cons_succ, i64_w, i32_w]
            rfl
           refine pure_ (i := 4) (N := some 42) (v := ?_) (a' := ?_) #[true, true, true, true, true, false, false, false, false, false, false, false, false, false, false, false] rfl rfl (by kernel_rfl) (fun _ _ _ h => h) (Or.inl ⟨by rfl, ?_⟩) ?_ ?_
           rotate_left
           ·intro w'
            go_simp
            with_reducible rfl
           rotate_left
           ·simp only [Act.put, List.setIfInBounds_toArray, List.set_cons_zero, List.set_cons_succ, i64_w, i32_w]
            rfl
           refine pure_ (i := 5) (N := some 43) (v := ?_) (a' := ?_) #[true, true, true, true, true, true, false, false, false, false, false, false, false, false, false, false] rfl rfl (by kernel_rfl) (fun _ _ _ h => h) (Or.inl ⟨by rfl, ?_⟩) ?_ ?_
           rotate_left
           ·intro w'
            go_simp
            with_reducible rfl
           rotate_left
           ·simp only [Act.put, List.setIfInBounds_toArray, List.set_cons_zero, List.set_cons_succ, i64_w, i32_w]
            rfl
           refine pure_ (i := 6) (N := some 44) (v := ?_) (a' := ?_) #[true, true, true, true, true, true, true, false, false, false, false, false, false, false, false, false] rfl rfl (by kernel_rfl) (fun _ _ _ h => h) (Or.inl ⟨by rfl, ?_⟩) ?_ ?_
           rotate_left
           ·intro w'
            go_simp
            with_reducible rfl
           rotate_left
           ·simp only [Act.put, List.setIfInBounds_toArray, List.set_cons_zero, List.set_cons_succ, i64_w, i32_w]
            rfl
           refine pure_ (i := 7) (N := some 45) (v := ?_) (a' := ?_) #[true, true, true, true, true, true, true, true, false, false, false, false, false, false, false, false] rfl rfl (by kernel_rfl) (fun _ _ _ h => h) (Or.inl ⟨by rfl, ?_⟩) ?_ ?_
           rotate_left
           ·intro w'
            go_simp
            with_reducible rfl
           rotate_left
           ·simp only [Act.put, List.setIfInBounds_toArray, List.set_cons_zero, List.set_cons_succ, i64_w, i32_w]
            rfl
           refine pure_ (i := 10) (N := some 48) (v := ?_) (a' := ?_) #[true, true, true, true, true, true, true, true, false, false, true, false, false, false, false, false] rfl rfl (by kernel_rfl) (fun _ _ _ h => h) (Or.inl ⟨by rfl, ?_⟩) ?_ ?_
           rotate_left
           ·intro w'
            go_simp
            with_reducible rfl
           rotate_left
           ·simp only [Act.put, List.setIfInBounds_toArray, List.set_cons_zero, List.set_cons_succ, i64_w, i32_w]
            rfl
           refine take_ (i := 8) (N := some 46) (v := ?_) (a' := ?_) #[true, true, true, true, true, true, true, true, true, false, true, false, false, false, false, false] rfl rfl (by kernel_rfl) (fun _ _ _ h => h) (Or.inl ⟨by rfl, ?_⟩) hHeld ?_ ?_
           rotate_left
           ·rintro w' ⟨s0, s1, s2⟩
            go_simp
            with_reducible rfl
           rotate_left
           ·simp only [Act.put, List.setIfInBounds_toArray, List.set_cons_zero, List.set_cons_succ, i64_w, i32_w]
            rfl
           refine take_ (i := 9) (N := some 47) (v := ?_) (a' := ?_) #[true, true, true, true, true, true, true, true, true, true, true, false, false, false, false, false] rfl rfl (by kernel_rfl) (fun _ _ _ h => h) (Or.inl ⟨by rfl, ?_⟩) hHeld ?_ ?_
           rotate_left
           ·rintro w' ⟨s0, s1, s2⟩
            go_simp
            with_reducible rfl
           rotate_left
           ·simp only [Act.put, List.setIfInBounds_toArray, List.set_cons_zero, List.set_cons_succ, i64_w, i32_w]
            rfl
           refine pure_ (i := 11) (N := some 49) (v := ?_) (a' := ?_) #[true, true, true, true, true, true, true, true, true, true, true, true, false, false, false, false] rfl rfl (by kernel_rfl) (fun _ _ _ h => h) (Or.inl ⟨by rfl, ?_⟩) ?_ ?_
           rotate_left
           ·intro w'
            go_simp
            with_reducible rfl
           rotate_left
           ·simp only [Act.put, List.setIfInBounds_toArray, List.set_cons_zero, List.set_cons_succ, i64_w, i32_w]
            rfl
           refine pure_ (i := 12) (N := some 50) (v := ?_) (a' := ?_) #[true, true, true, true, true, true, true, true, true, true, true, true, true, false, false, false] rfl rfl (by kernel_rfl) (fun _ _ _ h => h) (Or.inl ⟨by rfl, ?_⟩) ?_ ?_
           rotate_left
           ·intro w'
            go_simp
            with_reducible rfl
           rotate_left
           ·simp only [Act.put, List.setIfInBounds_toArray, List.set_cons_zero, List.set_cons_succ, i64_w, i32_w]
            rfl
           refine take_ (i := 13) (N := some 51) (v := ?_) (a' := ?_) #[true, true, true, true, true, true, true, true, true, true, true, true, true, true, false, false] rfl rfl (by kernel_rfl) (fun _ _ _ h => h) (Or.inl ⟨by rfl, ?_⟩) hHeld ?_ ?_
           rotate_left
           ·rintro w' ⟨s0, s1, s2⟩
            go_simp
            with_reducible rfl
           rotate_left
           ·simp only [Act.put, List.setIfInBounds_toArray, List.set_cons_zero, List.set_cons_succ, i64_w, i32_w]
            rfl
           refine pure_ (i := 14) (N := some 52) (v := ?_) (a' := ?_) #[true, true, true, true, true, true, true, true, true, true, true, true, true, true, true, false] rfl rfl (by kernel_rfl) (fun _ _ _ h => h) (Or.inl ⟨by rfl, ?_⟩) ?_ ?_
           rotate_left
           ·intro w'
            go_simp
            with_reducible rfl
           rotate_left
           ·simp only [Act.put, List.setIfInBounds_toArray, List.set_cons_zero, List.set_cons_succ, i64_w, i32_w]
            rfl
           refine pure_ (i := 15) (N := some 53) (v := ?_) (a' := ?_) #[true, true, true, true, true, true, true, true, true, true, true, true, true, true, true, true] rfl rfl (by kernel_rfl) (fun _ _ _ h => h) (Or.inl ⟨by rfl, ?_⟩) ?_ ?_
           rotate_left
           ·intro w'
            go_simp
            with_reducible rfl
           rotate_left
           ·simp only [Act.put, List.setIfInBounds_toArray, List.set_cons_zero, List.set_cons_succ, i64_w, i32_w]
            rfl
           refine done_ (by kernel_rfl) ?_
           have z_6 : wd_16_5.cell? ⟨gl, 0, none⟩ = some (.slice ((some adl)) l0.length c0) := (HD_16_4.out.cell 3 rfl 0 rfl)
           have z_7 : wd_16_5.cell? ⟨(adl.add (i.toNat * 2)).block, (adl.add (i.toNat * 2)).off + 1, none⟩ = some (.int .i64 (rd_T32 l0 i).f1) := (impl_LeftEdge.at0 (Kd.C_below HR.out HD_16_4.out.base) i HI.out.1 HI.out.2).2
           go_wp2_with (first | ((with_reducible refine gate_store (t := 3) (p := 70) (v := .tmp 69) rfl ?_); refine Sep.own_put_ev (0 : Int) HD_16_4.out 0 rfl t ((rd_T32 l0 i).f1) ht0 c3 rfl rfl 3 (.tmp 70) (.tmp 69) rfl rfl rfl rfl (by kernel_rfl) ?_; intro w_1 ho; have HO_1 := Aside0.mk ho; clear ho) | ((with_reducible refine gate_store (t := 3) (p := 74) (v := .tmp 73) rfl ?_); refine Sep.own_put_ev (0 : Int) HO_1.out 1 rfl i t HI.out.1 (by have := HOS.out; have := HI.out.2; omega) rfl rfl 3 (.tmp 74) (.tmp 73) rfl rfl rfl rfl (by kernel_rfl) ?_; intro w_2 ho; have HO_2 := Aside0.mk ho; clear ho))
           have ho_ := HO_2.out
           have HF_ := Aside0.mk (show Own w _ [Item.row (Kd.int .i64) 3 (.slice ((some ⟨gt_, 0, none⟩)) ((ls.set t.toNat (impl_LeftEdge.G l0 i)).length) cl) ((ls.set t.toNat (impl_LeftEdge.G l0 i))), Item.row (Kd.int .i64) 3 (.slice ((some ⟨g_30, 0, none⟩)) l0.length c_30) ((os.set i.toNat t)), Item.row (Kd.int .i64) 3 (.slice ((some ⟨g4, 0, none⟩)) l0.length c4) ((impl_LeftEdge.ord l0)), Item.box gl 23 #[.slice ((some adl)) l0.length c0]] from by have e := ho_; (try rw [List.length_set]); exact e)
           go_roundw
           case measure => simp only [intOf, hwj]; omega
           case rel => exact ⟨j + 1, os.set i.toNat t, ls.set t.toNat (impl_LeftEdge.G l0 i), by omega, by omega, by first | rfl | rw [hwj], ⟨by have e := HE2.out; rw [HT2.out, Int.toNat_of_nonneg ht0] at e; unfold Sep.leLast at e; rw [HT2.out, if_neg (show ¬ t.toNat = ls.length by omega)] at e; exact e⟩, ⟨by rw [List.length_set]; exact HOS.out⟩, ⟨by have := HLS.out; rw [List.length_set]; omega⟩, by exact HO_2⟩
         ·have c3b := decide_eq_false c3
          obtain rfl : t = (ls.length : Int) := by omega
          have HT2 := Aside0.mk (show Sep.leTrack (impl_LeftEdge.F l0 i) ls = ls.length from by have e := HT.out; rw [Int.toNat_natCast, List.drop_length] at e; simp [Sep.leTrack] at e; omega)
          have q4 : ((ls.length : Int) < ((ls.length : Int) + 1)) = True := eq_true (by omega)
          have p4 : (0 ≤ (ls.length : Int)) = True := eq_true (by omega)
          go_wp2
          have HD_16_4 := Aside0.mk (HO.out.drew)
          refine start_ (n := 16) (S := fun w' => True) (ds := []) #[false, false, false, false, false, false, false, false, false, false, false, false, false, false, false, false] (by kernel_rfl) rfl rfl trivial (fun hHeld => ?_)
          generalize wr.drew = wd_16_5 at HD_16_4 ⊢
          refine pure_ (i := 0) (N := some 38) (v := ?_) (a' := ?_) #[true, false, false, false, false, false, false, false, false, false, false, false, false, false, false, false] rfl rfl (by kernel_rfl) (fun _ _ _ h => h) (Or.inl ⟨by rfl, ?_⟩) ?_ ?_
          rotate_left
          ·intro w'
           go_simp
           with_reducible rfl
          rotate_left
          ·simp only [Act.put, List.setIfInBounds_toArray, List.set_cons_zero, List.set_cons_succ, i64_w, i32_w]
           rfl
          refine pure_ (i := 1) (N := some 39) (v := ?_) (a' := ?_) #[true, true, false, false, false, false, false, false, false, false, false, false, false, false, false, false] rfl rfl (by kernel_rfl) (fun _ _ _ h => h) (Or.inl ⟨by rfl, ?_⟩) ?_ ?_
          rotate_left
          ·intro w'
           go_simp
           with_reducible rfl
          rotate_left
          ·simp only [Act.put, List.setIfInBounds_toArray, List.set_cons_zero, List.set_cons_succ, i64_w, i32_w]
           rfl
          refine pure_ (i := 2) (N := some 40) (v := ?_) (a' := ?_) #[true, true, true, false, false, false, false, false, false, false, false, false, false, false, false, false] rfl rfl (by kernel_rfl) (fun _ _ _ h => h) (Or.inl ⟨by rfl, ?_⟩) ?_ ?_
          rotate_left
          ·intro w'
           go_simp
           with_reducible rfl
          rotate_left
          ·simp only [Act.put, List.setIfInBounds_toArray, List.set_cons_zero, List.set_cons_succ, i64_w, i32_w]
           rfl
          refine pure_ (i := 3) (N := some 41) (v := ?_) (a' := ?_) #[true, true, true, true, false, false, false, false, false, false, false, false, false, false, false, false] rfl rfl (by kernel_rfl) (fun _ _ _ h => h) (Or.inl ⟨by rfl, ?_⟩) ?_ ?_
          rotate_left
          ·intro w'
           go_simp
           with_reducible rfl
          rotate_left
          ·simp only [Act.put, List.setIfInBounds_toArray, List.set_cons_zero, List.set_cons_succ, i64_w, i32_w]
           rfl
          refine pure_ (i := 4) (N := some 42) (v := ?_) (a' := ?_) #[true, true, true, true, true, false, false, false, false, false, false, false, false, false, false, false] rfl rfl (by kernel_rfl) (fun _ _ _ h => h) (Or.inl ⟨by rfl, ?_⟩) ?_ ?_
          rotate_left
          ·intro w'
           go_simp
           with_reducible rfl
          rotate_left
          ·simp only [Act.put, List.setIfInBounds_toArray, List.set_cons_zero, List.set_cons_succ, i64_w, i32_w]
           rfl
          refine pure_ (i := 5) (N := some 43) (v := undef) (a' := ?_) #[true, true, true, true, true, true, false, false, false, false, false, false, false, false, false, false] rfl rfl (by kernel_rfl) (fun _ _ _ h => h) (Or.inr ⟨by rfl, rfl⟩) ?_ ?_
          rotate_left
          ·simp only [Act.put, List.setIfInBounds_toArray, List.set_cons_zero, List.set_cons_succ, i64_w, i32_w]
           rfl
          refine pure_ (i := 6) (N := some 44) (v := undef) (a' := ?_) #[true, true, true, true, true, true, true, false, false, false, false, false, false, false, false, false] rfl rfl (by kernel_rfl) (fun _ _ _ h => h) (Or.inr ⟨by rfl, rfl⟩) ?_ ?_
          rotate_left
          ·simp only [Act.put, List.setIfInBounds_toArray, List.set_cons_zero, List.set_cons_succ, i64_w, i32_w]
           rfl
          refine pure_ (i := 7) (N := some 45) (v := undef) (a' := ?_) #[true, true, true, true, true, true, true, true, false, false, false, false, false, false, false, false] rfl rfl (by kernel_rfl) (fun _ _ _ h => h) (Or.inr ⟨by rfl, rfl⟩) ?_ ?_
          rotate_left
          ·simp only [Act.put, List.setIfInBounds_toArray, List.set_cons_zero, List.set_cons_succ, i64_w, i32_w]
           rfl
          refine pure_ (i := 8) (N := some 46) (v := undef) (a' := ?_) #[true, true, true, true, true, true, true, true, true, false, false, false, false, false, false, false] rfl rfl (by kernel_rfl) (fun _ _ _ h => h) (Or.inr ⟨by rfl, rfl⟩) ?_ ?_
          rotate_left
          ·simp only [Act.put, List.setIfInBounds_toArray, List.set_cons_zero, List.set_cons_succ, i64_w, i32_w]
           rfl
          refine pure_ (i := 9) (N := some 47) (v := undef) (a' := ?_) #[true, true, true, true, true, true, true, true, true, true, false, false, false, false, false, false] rfl rfl (by kernel_rfl) (fun _ _ _ h => h) (Or.inr ⟨by rfl, rfl⟩) ?_ ?_
          rotate_left
          ·simp only [Act.put, List.setIfInBounds_toArray, List.set_cons_zero, List.set_cons_succ, i64_w, i32_w]
           rfl
          refine pure_ (i := 10) (N := some 48) (v := undef) (a' := ?_) #[true, true, true, true, true, true, true, true, true, true, true, false, false, false, false, false] rfl rfl (by kernel_rfl) (fun _ _ _ h => h) (Or.inr ⟨by rfl, rfl⟩) ?_ ?_
          rotate_left
          ·simp only [Act.put, List.setIfInBounds_toArray, List.set_cons_zero, List.set_cons_succ, i64_w, i32_w]
           rfl
          refine pure_ (i := 11) (N := some 49) (v := undef) (a' := ?_) #[true, true, true, true, true, true, true, true, true, true, true, true, false, false, false, false] rfl rfl (by kernel_rfl) (fun _ _ _ h => h) (Or.inr ⟨by rfl, rfl⟩) ?_ ?_
          rotate_left
          ·simp only [Act.put, List.setIfInBounds_toArray, List.set_cons_zero, List.set_cons_succ, i64_w, i32_w]
           rfl
          refine pure_ (i := 12) (N := some 50) (v := undef) (a' := ?_) #[true, true, true, true, true, true, true, true, true, true, true, true, true, false, false, false] rfl rfl (by kernel_rfl) (fun _ _ _ h => h) (Or.inr ⟨by rfl, rfl⟩) ?_ ?_
          rotate_left
          ·simp only [Act.put, List.setIfInBounds_toArray, List.set_cons_zero, List.set_cons_succ, i64_w, i32_w]
           rfl
          refine pure_ (i := 13) (N := some 51) (v := undef) (a' := ?_) #[true, true, true, true, true, true, true, true, true, true, true, true, true, true, false, false] rfl rfl (by kernel_rfl) (fun _ _ _ h => h) (Or.inr ⟨by rfl, rfl⟩) ?_ ?_
          rotate_left
          ·simp only [Act.put, List.setIfInBounds_toArray, List.set_cons_zero, List.set_cons_succ, i64_w, i32_w]
           rfl
          refine pure_ (i := 14) (N := some 52) (v := undef) (a' := ?_) #[true, true, true, true, true, true, true, true, true, true, true, true, true, true, true, false] rfl rfl (by kernel_rfl) (fun _ _ _ h => h) (Or.inr ⟨by rfl, rfl⟩) ?_ ?_
          rotate_left
          ·simp only [Act.put, List.setIfInBounds_toArray, List.set_cons_zero, List.set_cons_succ, i64_w, i32_w]
           rfl
          refine pure_ (i := 15) (N := some 53) (v := ?_) (a' := ?_) #[true, true, true, true, true, true, true, true, true, true, true, true, true, true, true, true] rfl rfl (by kernel_rfl) (fun _ _ _ h => h) (Or.inl ⟨by rfl, ?_⟩) ?_ ?_
          rotate_left
          ·intro w'
           go_simp
           with_reducible rfl
          rotate_left
          ·simp only [Act.put, List.setIfInBounds_toArray, List.set_cons_zero, List.set_cons_succ, i64_w, i32_w]
           rfl
          refine done_ (by kernel_rfl) ?_
          go_wp2_with (first | ((with_reducible refine gate_dst (N := 62) rfl ?_); at_builtin; refine Sep.own_append (Kd.int .i64) HD_16_4.out 0 _ (ls) 3 rfl rfl (.tmp 60) (.tmp 61) 24 (.int .i64 0) 8 rfl Try.underlying24 info3 rfl (by decide) (by omega) 0 [.int .i64 0] rfl rfl rfl (by have := HLB.out; omega) ?_; intro x_62 w_2 ho; obtain ⟨g_62, n_62, c_62, hn_, rfl⟩ := Sep.own_row_fseal ho 0 rfl (by simp); have HN_62 := Aside0.mk hn_; clear hn_; have q5 : ((ls.length : Int) < (n_62 : Int)) = True := eq_true (by have e := HN_62.out; rw [List.length_append, List.length_singleton] at e; omega); have HO_2 := Aside0.mk ho; clear ho; have z_6 : w_2.cell? ⟨gl, 0, none⟩ = some (.slice ((some adl)) l0.length c0) := (HO_2.out.cell 3 rfl 0 rfl); have z_7 : w_2.cell? ⟨(adl.add (i.toNat * 2)).block, (adl.add (i.toNat * 2)).off + 1, none⟩ = some (.int .i64 (rd_T32 l0 i).f1) := (impl_LeftEdge.at0 (Kd.C_below HR.out HO_2.out.base) i HI.out.1 HI.out.2).2) | ((with_reducible refine gate_store (t := 3) (p := 70) (v := .tmp 69) rfl ?_); refine Sep.own_put_ev (0 : Int) HO_2.out 0 rfl ((ls.length : Int)) ((rd_T32 l0 i).f1) (by omega) (by simp; omega) rfl rfl 3 (.tmp 70) (.tmp 69) rfl rfl rfl rfl (by kernel_rfl) ?_; intro w_3 ho; have HO_3 := Aside0.mk ho; clear ho) | ((with_reducible refine gate_store (t := 3) (p := 74) (v := .tmp 73) rfl ?_); refine Sep.own_put_ev (0 : Int) HO_3.out 1 rfl i ((ls.length : Int)) HI.out.1 (by have := HOS.out; have := HI.out.2; omega) rfl rfl 3 (.tmp 74) (.tmp 73) rfl rfl rfl rfl (by kernel_rfl) ?_; intro w_4 ho; have HO_4 := Aside0.mk ho; clear ho))
          go_roundw
          case measure => simp only [intOf, hwj]; omega
          case rel => exact ⟨j + 1, os.set i.toNat (ls.length : Int), (ls ++ [0]).set (ls.length : Int).toNat (impl_LeftEdge.G l0 i), by omega, by omega, by first | rfl | rw [hwj], ⟨by have e := HE2.out; unfold Sep.leLast at e; rw [HT2.out, if_pos rfl] at e; rw [Int.toNat_natCast]; exact e⟩, ⟨by rw [List.length_set]; exact HOS.out⟩, ⟨by have := HLS.out; rw [List.length_set, List.length_append, List.length_singleton]; omega⟩, by exact HO_4⟩
       ·have c2b := decide_eq_false c2
        obtain rfl : j = (l0.length : Int) := by omega
        have he := HE.out
        rw [Int.toNat_natCast, ← HOL.out, List.drop_length] at he
        have he2 : os = r1 := he
        subst he2
        clear he
        go_wp2
        go_ret2
        obtain ⟨P_, hP⟩ := HO.out.get 1 rfl
        exact ⟨_, rfl, Kd.R_mono hP (fun _ _ => trivial), HO.out.base⟩
  ·cases h1
end Go.Proofs.Ytbkighlfgaifeaa.QFnRoutings
