/- BoundPoints of the program. -/
import Derived.Test.YtnibknaemgpjdaaDoorBnd
import Derived.Test.YtnibknaemgpjdaaDoorReg
namespace Go.Proofs.YtnibknaemgpjdaaDoor
open Go.RowKit

theorem min_step (x y z : Nat → Int) (k : Nat) (w : World) :
    Calls Tryd.prog 32 #[.agg #[.int .i64 (loK x k), .int .i64 (loK y k), .int .i64 (loK z k)], .agg #[.int .i64 (x k), .int .i64 (y k), .int .i64 (z k)]] w fun e w' => e = .returned (vec (loK x (k + 1)) (loK y (k + 1)) (loK z (k + 1))) ∧ Below w.heap.size w w' := by
  have h := minI (loK x k) (loK y k) (loK z k) (x k) (y k) (z k) w
  rw [loK_succ, loK_succ, loK_succ] at h
  exact h
theorem max_step (x y z : Nat → Int) (k : Nat) (w : World) :
    Calls Tryd.prog 33 #[.agg #[.int .i64 (hiK x k), .int .i64 (hiK y k), .int .i64 (hiK z k)], .agg #[.int .i64 (x k), .int .i64 (y k), .int .i64 (z k)]] w fun e w' => e = .returned (vec (hiK x (k + 1)) (hiK y (k + 1)) (hiK z (k + 1))) ∧ Below w.heap.size w w' := by
  have h := maxI (hiK x k) (hiK y k) (hiK z k) (x k) (y k) (z k) w
  rw [hiK_succ, hiK_succ, hiK_succ] at h
  exact h
set_option maxHeartbeats 8000000 in
theorem boundI (v : Value) (n : Nat) (x y z : Nat → Int) (w : World) (h : TriAt w v n x y z) (hn : n ≤ 1048576) :
    Calls Tryd.prog 77 #[v] w fun r w' => r = .returned (.tuple #[.agg #[.int .i64 (bpL x n), .int .i64 (bpL y n), .int .i64 (bpL z n), .int .i64 (bpH x n), .int .i64 (bpH y n), .int .i64 (bpH z n)], .bool (decide (0 < n))]) ∧ Below w.heap.size w w' := by
  obtain ⟨a, cap, rfl, hcap, hc⟩ := h
  have hB := below1 w (.cells #[.int .i64 (0), .int .i64 (0), .int .i64 (0), .int .i64 (0), .int .i64 (0), .int .i64 (0)] 66)
  have b0 := Blk.new w 66 #[.int .i64 (0), .int .i64 (0), .int .i64 (0), .int .i64 (0), .int .i64 (0), .int .i64 (0)]
  by_cases h0 : n = 0
  · subst h0
    clear hc
    go_enter Tryd.func77, Tryd.ntmps77
    go_wp2_with fail
    exact bodyPost_ret (v := .tuple #[.agg #[.int .i64 (bpL x 0), .int .i64 (bpL y 0), .int .i64 (bpL z 0), .int .i64 (bpH x 0), .int .i64 (bpH y 0), .int .i64 (bpH z 0)], .bool (decide (0 < 0))]) (by simp [results, Tryd.results77, go_sem, bpL_zero, bpH_zero]) rfl ⟨rfl, hB⟩
  · obtain ⟨b, off, rfl, hbl, hc⟩ := hc (by omega)
    have h00 := hc 0 (by omega)
    rw [Nat.zero_mul, Nat.add_zero] at h00
    have hne : ((n : Int) == 0) = false := by simp; omega
    have hn0 : (0 : Int) < (n : Int) := by omega
    have hn2 : 0 < n := by omega
    have hn1 : (n : Int) ≤ 1048576 := by omega
    have HC := Lib.hid hc
    clear hc
    go_enter Tryd.func77, Tryd.ntmps77
    go_upto_region 3 with fail
    generalize w.alloc (.cells #[.int .i64 (0), .int .i64 (0), .int .i64 (0), .int .i64 (0), .int .i64 (0), .int .i64 (0)] 66) = W0 at hB b0 ⊢
    have hB0 := hB
    have c0 := b0.cell
    have f0 := b0.frozen
    have l0 := b0.lt
    have hT : Thr W0 b off (x 0) (y 0) (z 0) := ⟨Nat.lt_of_lt_of_le hbl hB.size, h00.keep hB hbl⟩
    obtain ⟨d0, d1, d2⟩ := hT.cells
    clear h00
    go_cut [4] (fun s wx => ∃ q : Nat, s = .pointer (some ⟨q, 0, none⟩) ∧ w.heap.size < q ∧ Blk wx q 66 #[.int .i64 (cl (x 0)), .int .i64 (cl (y 0)), .int .i64 (cl (z 0)), .int .i64 (cl (x 0)), .int .i64 (cl (y 0)), .int .i64 (cl (z 0))] ∧ Blk wx w.heap.size 66 #[.int .i64 (0), .int .i64 (0), .int .i64 (0), .int .i64 (0), .int .i64 (0), .int .i64 (0)] ∧ Below w.heap.size w wx)
    case first =>
      go_region_held3 (fun w' => w'.cell? ⟨b, off, none⟩ = some (.int .i64 (x 0)) ∧ w'.cell? ⟨b, off + 1, none⟩ = some (.int .i64 (y 0)) ∧ w'.cell? ⟨b, off + 2, none⟩ = some (.int .i64 (z 0)))
        (first | with_reducible exact hT.cells | with_reducible exact hT.drew.cells | with_reducible exact (hT.alloc _).cells | with_reducible exact (hT.alloc _).drew.cells | with_reducible exact (hT.set6 (by omega) _ _ _ _ _ _).cells)
        (first
          | (go_at_call 63; refine (clamped_any (x 0) (y 0) (z 0) _).mono ?_; rintro e w1 ⟨rfl, hb⟩; (first | (replace bn := bn.keep hb) | (have bn : Blk w1 _ 66 #[.int .i64 (0), .int .i64 (0), .int .i64 (0), .int .i64 (0), .int .i64 (0), .int .i64 (0)] := (by with_reducible first | exact Blk.keep hb (Blk.new _ _ _) | exact Blk.keep hb (Blk.new _ _ _).drew); have gq0 := b0.lt; have gq := hB.size) | skip); (first | (have cn := bn.cell; have fn := bn.frozen; have ln := bn.lt) | skip); replace hB := (by with_reducible first | exact b_keep hb hB | exact b_keep hb hB.drew | exact b_keep hb (hB.alloc hB.size _) | exact b_keep hb (hB.alloc hB.size _).drew); replace b0 : Blk w1 _ _ _ := (by with_reducible first | exact Blk.keep hb b0 | exact Blk.keep hb b0.drew | exact Blk.keep hb (b0.alloc _) | exact Blk.keep hb (b0.alloc _).drew); replace l0 := b0.lt; replace c0 := b0.cell; replace f0 := b0.frozen; replace hT := (by with_reducible first | exact Thr.keep hb hT | exact Thr.keep hb hT.drew | exact Thr.keep hb (hT.alloc _) | exact Thr.keep hb (hT.alloc _).drew)))
      all_goals
        go_wp2_with fail
        go_meet
        first
          | with_reducible exact ⟨_, rfl, b0.lt, Blk.new _ _ _, b0.alloc _, hB.alloc hB.size _⟩
          | exact ⟨_, rfl, gq0, bn.set6 _ _ _ _ _ _, b0.far6 (by omega) _ _ _ _ _ _, below_set6 hB gq _ _ _ _ _ _⟩
    case rest =>
      obtain ⟨q, rfl, hq, b1, b0, hB⟩ := hcut
      clear hB0 hT d0 d1 d2
      rw [← loK_one x, ← loK_one y, ← loK_one z] at b1
      replace b1 : Blk wc q 66 #[.int .i64 (loK x 1), .int .i64 (loK y 1), .int .i64 (loK z 1), .int .i64 (hiK x 1), .int .i64 (hiK y 1), .int .i64 (hiK z 1)] := by
        rw [hiK_one, hiK_one, hiK_one, ← loK_one x, ← loK_one y, ← loK_one z]
        exact b1
      by_cases hcap1 : cap = 1
      · obtain rfl : n = 1 := by omega
        subst hcap1
        have HL := Lib.hid (fun x => bpL_pos x (by omega : 0 < 1))
        have HH := Lib.hid (fun x => bpH_pos x (by omega : 0 < 1))
        have c0 := b0.cell
        have f0 := b0.frozen
        have l0 := b0.lt
        have c1 := b1.cell
        have f1 := b1.frozen
        have l1 := b1.lt
        go_wp2
        refine wp_loop_rounds 1 ?_
        rw [rounds_succ]
        go_wp2
        exact bodyPost_ret (v := .tuple #[.agg #[.int .i64 (bpL x 1), .int .i64 (bpL y 1), .int .i64 (bpL z 1), .int .i64 (bpH x 1), .int .i64 (bpH y 1), .int .i64 (bpH z 1)], .bool (decide (0 < 1))]) (by simp [results, Tryd.results77, go_sem, c0, HL.out, HH.out]) rfl ⟨rfl, ((((((hB.setCell (by dsimp only; omega) _).setCell (by dsimp only; omega) _).setCell (by dsimp only; omega) _).setCell (by dsimp only; omega) _).setCell (by dsimp only; omega) _).setCell (by dsimp only; omega) _)⟩
      · go_wp2
        have B1 := Lib.hid b1
        have B0 := Lib.hid b0
        have HB := Lib.hid hB
        clear b0 b1 hB
        go_loopw [23] (fun s wr => ∃ k : Nat, k ≤ n - 1 ∧ s = .int .i64 k ∧ Blk wr q 66 #[.int .i64 (loK x (k + 1)), .int .i64 (loK y (k + 1)), .int .i64 (loK z (k + 1)), .int .i64 (hiK x (k + 1)), .int .i64 (hiK y (k + 1)), .int .i64 (hiK z (k + 1))] ∧ Blk wr w.heap.size 66 #[.int .i64 (0), .int .i64 (0), .int .i64 (0), .int .i64 (0), .int .i64 (0), .int .i64 (0)] ∧ Below w.heap.size w wr) (fun s _ => (n - 1) - (intOf s).toNat)
        case atStart => exact ⟨0, by omega, rfl, B1.out, B0.out, HB.out⟩
        case round =>
          obtain ⟨k, hk, rfl, b1, b0, hB⟩ := hrel
          clear B1 B0 HB
          by_cases hlt : k < n - 1
          · have h3 := (HC.out (k + 1) (by omega)).keep hB hbl
            rw [show off + (k + 1) * 3 = off + 3 + k * 3 by omega] at h3
            obtain ⟨d0, d1, d2⟩ := h3
            have hk0 : (0 : Int) ≤ (k : Int) := by omega
            have hk1 : (k : Int) < ((n - 1 : Nat) : Int) := by omega
            have c0 := b0.cell
            have f0 := b0.frozen
            have l0 := b0.lt
            have c1 := b1.cell
            have f1 := b1.frozen
            have l1 := b1.lt
            go_wp2_with fail
            clear d0 d1 d2
            have d2_0 := b0.lt
            have d2_1 := b1.lt
            have g2 := hB.size
            replace b0 := b0.alloc (.cells #[.int .i64 (x (k + 1)), .int .i64 (y (k + 1)), .int .i64 (z (k + 1))] 23)
            replace b1 := b1.alloc (.cells #[.int .i64 (x (k + 1)), .int .i64 (y (k + 1)), .int .i64 (z (k + 1))] 23)
            have b2 := Blk.new wr 23 #[.int .i64 (x (k + 1)), .int .i64 (y (k + 1)), .int .i64 (z (k + 1))]
            replace hB := hB.alloc hB.size (.cells #[.int .i64 (x (k + 1)), .int .i64 (y (k + 1)), .int .i64 (z (k + 1))] 23)
            clear c0 f0 l0 c1 f1 l1
            generalize wr.heap.size = q2 at b2 g2 d2_0 d2_1 ⊢
            generalize wr.alloc (.cells #[.int .i64 (x (k + 1)), .int .i64 (y (k + 1)), .int .i64 (z (k + 1))] 23) = W2 at hB b0 b1 b2 ⊢
            have c0 := b0.cell
            have f0 := b0.frozen
            have l0 := b0.lt
            have c1 := b1.cell
            have f1 := b1.frozen
            have l1 := b1.lt
            have c2 := b2.cell
            have f2 := b2.frozen
            have l2 := b2.lt
            clear hk0 hk1
            refine wp_region_tail (S := (fun w' => (∀ i, w'.cell? ⟨q, i, none⟩ = (#[.int .i64 (loK x (k + 1)), .int .i64 (loK y (k + 1)), .int .i64 (loK z (k + 1)), .int .i64 (hiK x (k + 1)), .int .i64 (hiK y (k + 1)), .int .i64 (hiK z (k + 1))] : Array Value)[i]?) ∧ (∀ i, w'.cell? ⟨q2, i, none⟩ = (#[.int .i64 (x (k + 1)), .int .i64 (y (k + 1)), .int .i64 (z (k + 1))] : Array Value)[i]?))) 9 (by kernel_rfl) (by kernel_rfl) ⟨b1.drew.cell, b2.drew.cell⟩ (fun hHeld => ?_)
            refine wpAnyH_take (i := 0) (v := ?v0) rfl (by kernel_rfl) (by kernel_rfl) (by kernel_rfl) (fun _ _ _ h => h) (Or.inl ⟨by rfl, ?y0⟩) (by assumption) ?r0
            case y0 => intro W hSw; (try dsimp only at hSw); go_simp; try with_reducible rfl
            try simp only [Act.put]
            try simp only [List.setIfInBounds_toArray]
            try simp only [List.set_cons_succ]
            try simp only [List.set_cons_zero]
            refine wpAnyH_take (i := 1) (v := ?v1) rfl (by kernel_rfl) (by kernel_rfl) (by kernel_rfl) (fun _ _ _ h => h) (Or.inl ⟨by rfl, ?y1⟩) (by assumption) ?r1
            case y1 => intro W hSw; (try dsimp only at hSw); go_simp; try with_reducible rfl
            try simp only [Act.put]
            try simp only [List.setIfInBounds_toArray]
            try simp only [List.set_cons_succ]
            try simp only [List.set_cons_zero]
            refine wpAnyH_take (i := 2) (v := ?v2) rfl (by kernel_rfl) (by kernel_rfl) (by kernel_rfl) (fun _ _ _ h => h) (Or.inl ⟨by rfl, ?y2⟩) (by assumption) ?r2
            case y2 => intro W hSw; (try dsimp only at hSw); go_simp; try with_reducible rfl
            try simp only [Act.put]
            try simp only [List.setIfInBounds_toArray]
            try simp only [List.set_cons_succ]
            try simp only [List.set_cons_zero]
            refine wpAnyH_take (i := 4) (v := ?v4) rfl (by kernel_rfl) (by kernel_rfl) (by kernel_rfl) (fun _ _ _ h => h) (Or.inl ⟨by rfl, ?y4⟩) (by assumption) ?r4
            case y4 => intro W hSw; (try dsimp only at hSw); go_simp; try with_reducible rfl
            try simp only [Act.put]
            try simp only [List.setIfInBounds_toArray]
            try simp only [List.set_cons_succ]
            try simp only [List.set_cons_zero]
            refine wpAnyH_take (i := 5) (v := ?v5) rfl (by kernel_rfl) (by kernel_rfl) (by kernel_rfl) (fun _ _ _ h => h) (Or.inl ⟨by rfl, ?y5⟩) (by assumption) ?r5
            case y5 => intro W hSw; (try dsimp only at hSw); go_simp; try with_reducible rfl
            try simp only [Act.put]
            try simp only [List.setIfInBounds_toArray]
            try simp only [List.set_cons_succ]
            try simp only [List.set_cons_zero]
            refine wpAnyH_take (i := 6) (v := ?v6) rfl (by kernel_rfl) (by kernel_rfl) (by kernel_rfl) (fun _ _ _ h => h) (Or.inl ⟨by rfl, ?y6⟩) (by assumption) ?r6
            case y6 => intro W hSw; (try dsimp only at hSw); go_simp; try with_reducible rfl
            try simp only [Act.put]
            try simp only [List.setIfInBounds_toArray]
            try simp only [List.set_cons_succ]
            try simp only [List.set_cons_zero]
            refine wpAnyH_ready (rs := [3]) (by kernel_rfl) (by simp) ?_
            refine AllReadyH.cons rfl (fun K hK => ?_) AllReadyH.nil
            go_simp
            (go_at_call 32; refine (min_step x y z (k + 1) _).mono ?_; rintro e w1 ⟨rfl, hb⟩; have hB := (by with_reducible first | exact b_keep hb hB | exact b_keep hb hB.drew); replace b0 : Blk w1 _ _ _ := (by with_reducible first | exact Blk.keep hb b0 | exact Blk.keep hb b0.drew); replace b1 : Blk w1 _ _ _ := (by with_reducible first | exact Blk.keep hb b1 | exact Blk.keep hb b1.drew); replace b2 : Blk w1 _ _ _ := (by with_reducible first | exact Blk.keep hb b2 | exact Blk.keep hb b2.drew); replace l0 := b0.lt; replace l1 := b1.lt; replace l2 := b2.lt; replace c0 := b0.cell; replace c1 := b1.cell; replace c2 := b2.cell; replace f0 := b0.frozen; replace f1 := b1.frozen; replace f2 := b2.frozen)
            refine hK.out _ _ ⟨b1.cell, b2.cell⟩ (fun hHeld => ?_)
            clear hK K
            try simp only [Act.put]
            try simp only [List.setIfInBounds_toArray]
            try simp only [List.set_cons_succ]
            try simp only [List.set_cons_zero]
            refine wpAnyH_take (i := 8) (v := ?v8) rfl (by kernel_rfl) (by kernel_rfl) (by kernel_rfl) (fun _ _ _ h => h) (Or.inl ⟨by rfl, ?y8⟩) (by assumption) ?r8
            case y8 => intro W hSw; (try dsimp only at hSw); go_simp; try with_reducible rfl
            try simp only [Act.put]
            try simp only [List.setIfInBounds_toArray]
            try simp only [List.set_cons_succ]
            try simp only [List.set_cons_zero]
            refine wpAnyH_ready (rs := [7]) (by kernel_rfl) (by simp) ?_
            refine AllReadyH.cons rfl (fun K hK => ?_) AllReadyH.nil
            go_simp
            (go_at_call 33; refine (max_step x y z (k + 1) _).mono ?_; rintro e w1 ⟨rfl, hb⟩; have hB := (by with_reducible first | exact b_keep hb hB | exact b_keep hb hB.drew); replace b0 : Blk w1 _ _ _ := (by with_reducible first | exact Blk.keep hb b0 | exact Blk.keep hb b0.drew); replace b1 : Blk w1 _ _ _ := (by with_reducible first | exact Blk.keep hb b1 | exact Blk.keep hb b1.drew); replace b2 : Blk w1 _ _ _ := (by with_reducible first | exact Blk.keep hb b2 | exact Blk.keep hb b2.drew); replace l0 := b0.lt; replace l1 := b1.lt; replace l2 := b2.lt; replace c0 := b0.cell; replace c1 := b1.cell; replace c2 := b2.cell; replace f0 := b0.frozen; replace f1 := b1.frozen; replace f2 := b2.frozen)
            refine hK.out _ _ ⟨b1.cell, b2.cell⟩ (fun hHeld => ?_)
            clear hK K
            try simp only [Act.put]
            try simp only [List.setIfInBounds_toArray]
            try simp only [List.set_cons_succ]
            try simp only [List.set_cons_zero]
            refine wpAnyH_done (by kernel_rfl) ?_ _
            simp only [withNormal, List.drop_succ_cons, List.drop_zero]
            go_wp2
            go_roundw
            case rel => exact ⟨k + 1, by omega, by go_num, b1.set6 _ _ _ _ _ _, b0.far6 (by omega) _ _ _ _ _ _, below_set6 hB (by omega) _ _ _ _ _ _⟩
            case measure => simp [intOf]; omega
          · obtain rfl : k = n - 1 := by omega
            rw [show n - 1 + 1 = n by omega] at b1
            have HL := Lib.hid (fun x => bpL_pos x hn2)
            have HH := Lib.hid (fun x => bpH_pos x hn2)
            have HO := Lib.hid (show decide (0 < n) = true by simpa using hn0)
            have c0 := b0.cell
            have f0 := b0.frozen
            have l0 := b0.lt
            have c1 := b1.cell
            have f1 := b1.frozen
            have l1 := b1.lt
            go_wp2
            exact bodyPost_ret (v := .tuple #[.agg #[.int .i64 (bpL x n), .int .i64 (bpL y n), .int .i64 (bpL z n), .int .i64 (bpH x n), .int .i64 (bpH y n), .int .i64 (bpH z n)], .bool (decide (0 < n))]) (by simp [results, Tryd.results77, go_sem, c0, HL.out, HH.out, HO.out]) rfl ⟨rfl, ((((((hB.setCell (by dsimp only; omega) _).setCell (by dsimp only; omega) _).setCell (by dsimp only; omega) _).setCell (by dsimp only; omega) _).setCell (by dsimp only; omega) _).setCell (by dsimp only; omega) _)⟩
end Go.Proofs.YtnibknaemgpjdaaDoor
