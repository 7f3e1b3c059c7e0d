/- BoundPoints of the reference. -/
import Derived.Test.YtobfccoljijnkaaTri
import Derived.Test.YtobfccoljijnkaaBoxU
import Derived.Deep.DeepCutAuto
namespace Go.Proofs.Ytobfccoljijnkaa
open Go.RowKit

set_option maxHeartbeats 8000000 in
theorem boundS (v : Value) (n : Nat) (x y z : Nat → Int) (w : World) (h : TriAt w v n x y z) (hn : n ≤ 1048576) :
    Calls Try.prog 41 #[v] w fun r w' => r = .returned (.tuple #[.agg #[.int .i64 (bpL x n), .int .i64 (bpL y n), .int .i64 (bpL z n), .int .i64 (bpH x n), .int .i64 (bpH y n), .int .i64 (bpH z n)], .bool (decide (0 < n))]) ∧ Below w.heap.size w w' := by
  obtain ⟨a, cap, rfl, hcap, hc⟩ := h
  have hB := below1 w (.cells #[.int .i64 (0), .int .i64 (0), .int .i64 (0), .int .i64 (0), .int .i64 (0), .int .i64 (0)] 28)
  have b0 := Blk.new w 28 #[.int .i64 (0), .int .i64 (0), .int .i64 (0), .int .i64 (0), .int .i64 (0), .int .i64 (0)]
  by_cases h0 : n = 0
  · subst h0
    clear hc
    go_enter Try.func41, Try.ntmps41
    go_wp2_with fail
    exact bodyPost_ret (v := .tuple #[.agg #[.int .i64 (bpL x 0), .int .i64 (bpL y 0), .int .i64 (bpL z 0), .int .i64 (bpH x 0), .int .i64 (bpH y 0), .int .i64 (bpH z 0)], .bool (decide (0 < 0))]) (by simp [results, Try.results41, go_sem, bpL_zero, bpH_zero]) rfl ⟨rfl, hB⟩
  · obtain ⟨b, off, rfl, hbl, hc⟩ := hc (by omega)
    have h00 := hc 0 (by omega)
    rw [Nat.zero_mul, Nat.add_zero] at h00
    have hne : ((n : Int) == 0) = false := by simp; omega
    have hn0 : (0 : Int) < (n : Int) := by omega
    have hn2 : 0 < n := by omega
    have hn1 : (n : Int) ≤ 1048576 := by omega
    have HC := Lib.hid hc
    clear hc
    go_enter Try.func41, Try.ntmps41
    go_upto_region 3 with fail
    generalize w.alloc (.cells #[.int .i64 (0), .int .i64 (0), .int .i64 (0), .int .i64 (0), .int .i64 (0), .int .i64 (0)] 28) = W0 at hB b0 ⊢
    have hB0 := hB
    have c0 := b0.cell
    have f0 := b0.frozen
    have l0 := b0.lt
    have hT : Thr W0 b off (x 0) (y 0) (z 0) := ⟨Nat.lt_of_lt_of_le hbl hB.size, h00.keep hB hbl⟩
    obtain ⟨d0, d1, d2⟩ := hT.cells
    clear h00
    go_cut [4] (fun s wx => ∃ q : Nat, s = .pointer (some ⟨q, 0, none⟩) ∧ w.heap.size < q ∧ Blk wx q 28 #[.int .i64 (cl (x 0)), .int .i64 (cl (y 0)), .int .i64 (cl (z 0)), .int .i64 (cl (x 0)), .int .i64 (cl (y 0)), .int .i64 (cl (z 0))] ∧ Blk wx w.heap.size 28 #[.int .i64 (0), .int .i64 (0), .int .i64 (0), .int .i64 (0), .int .i64 (0), .int .i64 (0)] ∧ Below w.heap.size w wx)
    case first =>
      go_region_held3 (fun w' => w'.cell? ⟨b, off, none⟩ = some (.int .i64 (x 0)) ∧ w'.cell? ⟨b, off + 1, none⟩ = some (.int .i64 (y 0)) ∧ w'.cell? ⟨b, off + 2, none⟩ = some (.int .i64 (z 0)))
        (first | with_reducible exact hT.cells | with_reducible exact hT.drew.cells | with_reducible exact (hT.alloc _).cells | with_reducible exact (hT.alloc _).drew.cells | with_reducible exact (hT.set6 (by omega) _ _ _ _ _ _).cells)
        (first
          | (go_at_call 65; refine (l02V_any (x 0) (y 0) (z 0) _).mono ?_; rintro e w1 ⟨rfl, hb⟩; (first | (replace bn := bn.keep hb) | (have bn : Blk w1 _ 28 #[.int .i64 (0), .int .i64 (0), .int .i64 (0), .int .i64 (0), .int .i64 (0), .int .i64 (0)] := (by with_reducible first | exact Blk.keep hb (Blk.new _ _ _) | exact Blk.keep hb (Blk.new _ _ _).drew); have gq0 := b0.lt; have gq := hB.size) | skip); (first | (have cn := bn.cell; have fn := bn.frozen; have ln := bn.lt) | skip); replace hB := (by with_reducible first | exact b_keep hb hB | exact b_keep hb hB.drew | exact b_keep hb (hB.alloc hB.size _) | exact b_keep hb (hB.alloc hB.size _).drew); replace b0 : Blk w1 _ _ _ := (by with_reducible first | exact Blk.keep hb b0 | exact Blk.keep hb b0.drew | exact Blk.keep hb (b0.alloc _) | exact Blk.keep hb (b0.alloc _).drew); replace l0 := b0.lt; replace c0 := b0.cell; replace f0 := b0.frozen; replace hT := (by with_reducible first | exact Thr.keep hb hT | exact Thr.keep hb hT.drew | exact Thr.keep hb (hT.alloc _) | exact Thr.keep hb (hT.alloc _).drew)))
      all_goals
        go_wp2_with fail
        go_meet
        first
          | with_reducible exact ⟨_, rfl, b0.lt, Blk.new _ _ _, b0.alloc _, hB.alloc hB.size _⟩
          | exact ⟨_, rfl, gq0, bn.set6 _ _ _ _ _ _, b0.far6 (by omega) _ _ _ _ _ _, below_set6 hB gq _ _ _ _ _ _⟩
    case rest =>
      obtain ⟨q, rfl, hq, b1, b0, hB⟩ := hcut
      clear hB0 hT d0 d1 d2
      go_wp2
      have B1 := Lib.hid b1
      have B0 := Lib.hid b0
      have HB := Lib.hid hB
      clear b0 b1 hB
      go_loopw [22] (fun s wr => ∃ k : Nat, k ≤ n ∧ s = .int .i64 k ∧ Blk wr q 28 #[.int .i64 (loK x k), .int .i64 (loK y k), .int .i64 (loK z k), .int .i64 (hiK x k), .int .i64 (hiK y k), .int .i64 (hiK z k)] ∧ Blk wr w.heap.size 28 #[.int .i64 (0), .int .i64 (0), .int .i64 (0), .int .i64 (0), .int .i64 (0), .int .i64 (0)] ∧ Below w.heap.size w wr) (fun s _ => n - (intOf s).toNat)
      case atStart => exact ⟨0, by omega, rfl, B1.out, B0.out, HB.out⟩
      case round =>
        obtain ⟨k, hk, rfl, b1, b0, hB⟩ := hrel
        clear B1 B0 HB
        by_cases hlt : k < n
        · obtain ⟨d0, d1, d2⟩ := (HC.out k hlt).keep hB hbl
          have hk0 : (0 : Int) ≤ (k : Int) := by omega
          have hk1 : (k : Int) < (n : Int) := by omega
          have c0 := b0.cell
          have f0 := b0.frozen
          have l0 := b0.lt
          have c1 := b1.cell
          have f1 := b1.frozen
          have l1 := b1.lt
          go_wp2_with fail
          clear d0 d1 d2
          have d2_0 := b0.lt
          have d2_1 := b1.lt
          have g2 := hB.size
          replace b0 := b0.alloc (.cells #[.int .i64 (x k), .int .i64 (y k), .int .i64 (z k)] 26)
          replace b1 := b1.alloc (.cells #[.int .i64 (x k), .int .i64 (y k), .int .i64 (z k)] 26)
          have b2 := Blk.new wr 26 #[.int .i64 (x k), .int .i64 (y k), .int .i64 (z k)]
          replace hB := hB.alloc hB.size (.cells #[.int .i64 (x k), .int .i64 (y k), .int .i64 (z k)] 26)
          clear c0 f0 l0 c1 f1 l1
          generalize wr.heap.size = q2 at b2 g2 d2_0 d2_1 ⊢
          generalize wr.alloc (.cells #[.int .i64 (x k), .int .i64 (y k), .int .i64 (z k)] 26) = W2 at hB b0 b1 b2 ⊢
          have c0 := b0.cell
          have f0 := b0.frozen
          have l0 := b0.lt
          have c1 := b1.cell
          have f1 := b1.frozen
          have l1 := b1.lt
          have c2 := b2.cell
          have f2 := b2.frozen
          have l2 := b2.lt
          refine (minS _ _ _ _ _ _ _).mono ?_
          rintro e w1 ⟨rfl, hb⟩
          have hB := (by with_reducible first | exact b_keep hb hB | exact b_keep hb hB.drew)
          replace b0 : Blk w1 _ _ _ := (by with_reducible first | exact Blk.keep hb b0 | exact Blk.keep hb b0.drew)
          replace b1 : Blk w1 _ _ _ := (by with_reducible first | exact Blk.keep hb b1 | exact Blk.keep hb b1.drew)
          replace b2 : Blk w1 _ _ _ := (by with_reducible first | exact Blk.keep hb b2 | exact Blk.keep hb b2.drew)
          replace l0 := b0.lt
          replace l1 := b1.lt
          replace l2 := b2.lt
          replace c0 := b0.cell
          replace c1 := b1.cell
          replace c2 := b2.cell
          replace f0 := b0.frozen
          replace f1 := b1.frozen
          replace f2 := b2.frozen
          clear hb
          rw [loK_succ, loK_succ, loK_succ]
          go_wp2_with fail
          replace b0 := b0.far3 (g' := q) (by omega) (.int .i64 (loK x (k + 1))) (.int .i64 (loK y (k + 1))) (.int .i64 (loK z (k + 1)))
          replace b2 := b2.far3 (g' := q) (by omega) (.int .i64 (loK x (k + 1))) (.int .i64 (loK y (k + 1))) (.int .i64 (loK z (k + 1)))
          replace b1 := b1.lo6 (.int .i64 (loK x (k + 1))) (.int .i64 (loK y (k + 1))) (.int .i64 (loK z (k + 1)))
          replace hB := below_set3 (g' := q) hB (by omega) (.int .i64 (loK x (k + 1))) (.int .i64 (loK y (k + 1))) (.int .i64 (loK z (k + 1)))
          clear c0 c1 c2 f0 f1 f2 l0 l1 l2
          refine (maxS _ _ _ _ _ _ _).mono ?_
          rintro e w1 ⟨rfl, hb⟩
          have hB := (by with_reducible first | exact b_keep hb hB | exact b_keep hb hB.drew)
          replace b0 : Blk w1 _ _ _ := (by with_reducible first | exact Blk.keep hb b0 | exact Blk.keep hb b0.drew)
          replace b1 : Blk w1 _ _ _ := (by with_reducible first | exact Blk.keep hb b1 | exact Blk.keep hb b1.drew)
          replace b2 : Blk w1 _ _ _ := (by with_reducible first | exact Blk.keep hb b2 | exact Blk.keep hb b2.drew)
          replace l0 := b0.lt
          replace l1 := b1.lt
          replace l2 := b2.lt
          replace c0 := b0.cell
          replace c1 := b1.cell
          replace c2 := b2.cell
          replace f0 := b0.frozen
          replace f1 := b1.frozen
          replace f2 := b2.frozen
          clear hb
          rw [hiK_succ, hiK_succ, hiK_succ]
          go_wp2
          go_roundw
          case rel => exact ⟨k + 1, by omega, by go_num, b1.hi6 _ _ _, b0.farHi (by omega) _ _ _, below_setHi hB (by omega) _ _ _⟩
          case measure => simp [intOf]; omega
        · obtain rfl : k = n := by omega
          have HL := Lib.hid (fun x => bpL_pos x (by omega : 0 < k))
          have HH := Lib.hid (fun x => bpH_pos x (by omega : 0 < k))
          have HO := Lib.hid (show decide (0 < k) = true by simpa using hn0)
          have c0 := b0.cell
          have f0 := b0.frozen
          have l0 := b0.lt
          have c1 := b1.cell
          have f1 := b1.frozen
          have l1 := b1.lt
          go_wp2
          exact bodyPost_ret (v := .tuple #[.agg #[.int .i64 (bpL x k), .int .i64 (bpL y k), .int .i64 (bpL z k), .int .i64 (bpH x k), .int .i64 (bpH y k), .int .i64 (bpH z k)], .bool (decide (0 < k))]) (by simp [results, Try.results41, go_sem, c0, HL.out, HH.out, HO.out]) rfl ⟨rfl, ((((((hB.setCell (by dsimp only; omega) _).setCell (by dsimp only; omega) _).setCell (by dsimp only; omega) _).setCell (by dsimp only; omega) _).setCell (by dsimp only; omega) _).setCell (by dsimp only; omega) _)⟩
end Go.Proofs.Ytobfccoljijnkaa
