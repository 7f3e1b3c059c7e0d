/- Identity of transforms, and the laws' comparison of two transforms. -/
import Derived.Test.YtobfccoljijnkaaVec2
import Derived.Deep.LoopGhost
import Derived.WalkSmall
namespace Go.Proofs.Ytobfccoljijnkaa
open Go.RowKit

set_option maxHeartbeats 4000000 in
theorem eqIntA9_same (a b c d e f g h i : Int) (w : World) :
    Calls Try.prog 79 #[.agg #[.int .i64 (a), .int .i64 (b), .int .i64 (c), .int .i64 (d), .int .i64 (e), .int .i64 (f), .int .i64 (g), .int .i64 (h), .int .i64 (i)], .agg #[.int .i64 (a), .int .i64 (b), .int .i64 (c), .int .i64 (d), .int .i64 (e), .int .i64 (f), .int .i64 (g), .int .i64 (h), .int .i64 (i)]] w fun r w' => r = .returned (.bool true) ∧ Below w.heap.size w w' := by
  have hB := below2 w (.cells #[.int .i64 (a), .int .i64 (b), .int .i64 (c), .int .i64 (d), .int .i64 (e), .int .i64 (f), .int .i64 (g), .int .i64 (h), .int .i64 (i)] 54) (.cells #[.int .i64 (a), .int .i64 (b), .int .i64 (c), .int .i64 (d), .int .i64 (e), .int .i64 (f), .int .i64 (g), .int .i64 (h), .int .i64 (i)] 54)
  obtain ⟨b0, b1⟩ := blk2 w #[.int .i64 (a), .int .i64 (b), .int .i64 (c), .int .i64 (d), .int .i64 (e), .int .i64 (f), .int .i64 (g), .int .i64 (h), .int .i64 (i)] #[.int .i64 (a), .int .i64 (b), .int .i64 (c), .int .i64 (d), .int .i64 (e), .int .i64 (f), .int .i64 (g), .int .i64 (h), .int .i64 (i)] 54 54
  go_enter Try.func79, Try.ntmps79
  go_wp2
  generalize ((w.alloc (.cells #[.int .i64 (a), .int .i64 (b), .int .i64 (c), .int .i64 (d), .int .i64 (e), .int .i64 (f), .int .i64 (g), .int .i64 (h), .int .i64 (i)] 54)).alloc (.cells #[.int .i64 (a), .int .i64 (b), .int .i64 (c), .int .i64 (d), .int .i64 (e), .int .i64 (f), .int .i64 (g), .int .i64 (h), .int .i64 (i)] 54)) = W0 at hB b0 b1 ⊢
  have hB0 := hB
  have b00 := b0
  have b10 := b1
  clear hB b0 b1
  go_loopw [5] (fun j wr => ∃ k : Nat, k ≤ 9 ∧ j = .int .i64 k ∧ Blk wr w.heap.size 54 #[.int .i64 (a), .int .i64 (b), .int .i64 (c), .int .i64 (d), .int .i64 (e), .int .i64 (f), .int .i64 (g), .int .i64 (h), .int .i64 (i)] ∧ Blk wr (w.heap.size + 1) 54 #[.int .i64 (a), .int .i64 (b), .int .i64 (c), .int .i64 (d), .int .i64 (e), .int .i64 (f), .int .i64 (g), .int .i64 (h), .int .i64 (i)] ∧ Below w.heap.size w wr) (fun j _ => 9 - (intOf j).toNat)
  case atStart => exact ⟨0, by omega, rfl, b00, b10, hB0⟩
  case round =>
    obtain ⟨k, hk, rfl, b0, b1, hB⟩ := hrel
    clear b00 b10 hB0
    have c0 := b0.cell
    have f0 := b0.frozen
    have l0 := b0.lt
    have c1 := b1.cell
    have f1 := b1.frozen
    have l1 := b1.lt
    rcases (by omega : k = 0 ∨ k = 1 ∨ k = 2 ∨ k = 3 ∨ k = 4 ∨ k = 5 ∨ k = 6 ∨ k = 7 ∨ k = 8 ∨ k = 9) with rfl | rfl | rfl | rfl | rfl | rfl | rfl | rfl | rfl | rfl
    · go_wp2_with fail
      go_quiet (fail)
      go_wp2
      go_roundw
      case rel => exact ⟨1, by omega, by go_num, b0, b1, below_drewN hB _⟩
      case measure => simp [intOf]
    · go_wp2_with fail
      go_quiet (fail)
      go_wp2
      go_roundw
      case rel => exact ⟨2, by omega, by go_num, b0, b1, below_drewN hB _⟩
      case measure => simp [intOf]
    · go_wp2_with fail
      go_quiet (fail)
      go_wp2
      go_roundw
      case rel => exact ⟨3, by omega, by go_num, b0, b1, below_drewN hB _⟩
      case measure => simp [intOf]
    · go_wp2_with fail
      go_quiet (fail)
      go_wp2
      go_roundw
      case rel => exact ⟨4, by omega, by go_num, b0, b1, below_drewN hB _⟩
      case measure => simp [intOf]
    · go_wp2_with fail
      go_quiet (fail)
      go_wp2
      go_roundw
      case rel => exact ⟨5, by omega, by go_num, b0, b1, below_drewN hB _⟩
      case measure => simp [intOf]
    · go_wp2_with fail
      go_quiet (fail)
      go_wp2
      go_roundw
      case rel => exact ⟨6, by omega, by go_num, b0, b1, below_drewN hB _⟩
      case measure => simp [intOf]
    · go_wp2_with fail
      go_quiet (fail)
      go_wp2
      go_roundw
      case rel => exact ⟨7, by omega, by go_num, b0, b1, below_drewN hB _⟩
      case measure => simp [intOf]
    · go_wp2_with fail
      go_quiet (fail)
      go_wp2
      go_roundw
      case rel => exact ⟨8, by omega, by go_num, b0, b1, below_drewN hB _⟩
      case measure => simp [intOf]
    · go_wp2_with fail
      go_quiet (fail)
      go_wp2
      go_roundw
      case rel => exact ⟨9, by omega, by go_num, b0, b1, below_drewN hB _⟩
      case measure => simp [intOf]
    · go_wp2
      go_ret
      exact ⟨rfl, hB⟩
set_option maxHeartbeats 2000000 in
theorem eqTransform_same (m0 m1 m2 m3 m4 m5 m6 m7 m8 x y z : Int) (w : World) :
    Calls Try.prog 34 #[.agg #[.int .i64 (m0), .int .i64 (m1), .int .i64 (m2), .int .i64 (m3), .int .i64 (m4), .int .i64 (m5), .int .i64 (m6), .int .i64 (m7), .int .i64 (m8), .int .i64 (x), .int .i64 (y), .int .i64 (z)], .agg #[.int .i64 (m0), .int .i64 (m1), .int .i64 (m2), .int .i64 (m3), .int .i64 (m4), .int .i64 (m5), .int .i64 (m6), .int .i64 (m7), .int .i64 (m8), .int .i64 (x), .int .i64 (y), .int .i64 (z)]] w fun r w' => r = .returned (.bool true) ∧ Below w.heap.size w w' := by
  have hB := below2 w (.cells #[.int .i64 (m0), .int .i64 (m1), .int .i64 (m2), .int .i64 (m3), .int .i64 (m4), .int .i64 (m5), .int .i64 (m6), .int .i64 (m7), .int .i64 (m8), .int .i64 (x), .int .i64 (y), .int .i64 (z)] 56) (.cells #[.int .i64 (m0), .int .i64 (m1), .int .i64 (m2), .int .i64 (m3), .int .i64 (m4), .int .i64 (m5), .int .i64 (m6), .int .i64 (m7), .int .i64 (m8), .int .i64 (x), .int .i64 (y), .int .i64 (z)] 56)
  obtain ⟨b0, b1⟩ := blk2 w #[.int .i64 (m0), .int .i64 (m1), .int .i64 (m2), .int .i64 (m3), .int .i64 (m4), .int .i64 (m5), .int .i64 (m6), .int .i64 (m7), .int .i64 (m8), .int .i64 (x), .int .i64 (y), .int .i64 (z)] #[.int .i64 (m0), .int .i64 (m1), .int .i64 (m2), .int .i64 (m3), .int .i64 (m4), .int .i64 (m5), .int .i64 (m6), .int .i64 (m7), .int .i64 (m8), .int .i64 (x), .int .i64 (y), .int .i64 (z)] 56 56
  go_enter Try.func34, Try.ntmps34
  go_wp2_with fail
  generalize ((w.alloc (.cells #[.int .i64 (m0), .int .i64 (m1), .int .i64 (m2), .int .i64 (m3), .int .i64 (m4), .int .i64 (m5), .int .i64 (m6), .int .i64 (m7), .int .i64 (m8), .int .i64 (x), .int .i64 (y), .int .i64 (z)] 56)).alloc (.cells #[.int .i64 (m0), .int .i64 (m1), .int .i64 (m2), .int .i64 (m3), .int .i64 (m4), .int .i64 (m5), .int .i64 (m6), .int .i64 (m7), .int .i64 (m8), .int .i64 (x), .int .i64 (y), .int .i64 (z)] 56)) = W0 at hB b0 b1 ⊢
  have c0 := b0.cell
  have f0 := b0.frozen
  have l0 := b0.lt
  have c1 := b1.cell
  have f1 := b1.frozen
  have l1 := b1.lt
  refine (eqIntA9_same _ _ _ _ _ _ _ _ _ _).mono ?_
  rintro e w1 ⟨rfl, hb⟩
  have hB := (by with_reducible first | exact b_keep hb hB | exact b_keep hb hB.drew)
  replace b0 : Blk w1 _ _ _ := (by with_reducible first | exact Blk.keep hb b0 | exact Blk.keep hb b0.drew)
  replace b1 : Blk w1 _ _ _ := (by with_reducible first | exact Blk.keep hb b1 | exact Blk.keep hb b1.drew)
  replace l0 := b0.lt
  replace l1 := b1.lt
  replace c0 := b0.cell
  replace c1 := b1.cell
  replace f0 := b0.frozen
  replace f1 := b1.frozen
  clear hb
  go_wp2_with fail
  refine (eqVec_same _ _ _ _).mono ?_
  rintro e w1 ⟨rfl, hb⟩
  have hB := (by with_reducible first | exact b_keep hb hB | exact b_keep hb hB.drew)
  replace b0 : Blk w1 _ _ _ := (by with_reducible first | exact Blk.keep hb b0 | exact Blk.keep hb b0.drew)
  replace b1 : Blk w1 _ _ _ := (by with_reducible first | exact Blk.keep hb b1 | exact Blk.keep hb b1.drew)
  replace l0 := b0.lt
  replace l1 := b1.lt
  replace c0 := b0.cell
  replace c1 := b1.cell
  replace f0 := b0.frozen
  replace f1 := b1.frozen
  clear hb
  go_wp2
  go_ret
  exact ⟨rfl, hB⟩
set_option maxHeartbeats 1000000 in
theorem identityI (w : World) :
    Calls Try.prog 76 #[] w fun r w' => r = .returned (.agg #[.int .i64 (16), .int .i64 (0), .int .i64 (0), .int .i64 (0), .int .i64 (16), .int .i64 (0), .int .i64 (0), .int .i64 (0), .int .i64 (16), .int .i64 (0), .int .i64 (0), .int .i64 (0)]) ∧ Below w.heap.size w w' := by
  go_enter Try.func76, Try.ntmps76
  go_wp2
  exact bodyPost_ret (v := .agg #[.int .i64 (16), .int .i64 (0), .int .i64 (0), .int .i64 (0), .int .i64 (16), .int .i64 (0), .int .i64 (0), .int .i64 (0), .int .i64 (16), .int .i64 (0), .int .i64 (0), .int .i64 (0)]) (by simp [results, Try.results76, go_sem]) rfl ⟨rfl, below1 w _⟩
set_option maxHeartbeats 1000000 in
theorem identityS (w : World) :
    Calls Try.prog 72 #[] w fun r w' => r = .returned (.agg #[.int .i64 (16), .int .i64 (0), .int .i64 (0), .int .i64 (0), .int .i64 (16), .int .i64 (0), .int .i64 (0), .int .i64 (0), .int .i64 (16), .int .i64 (0), .int .i64 (0), .int .i64 (0)]) ∧ Below w.heap.size w w' := by
  go_enter Try.func72, Try.ntmps72
  go_wp2
  exact bodyPost_ret (v := .agg #[.int .i64 (16), .int .i64 (0), .int .i64 (0), .int .i64 (0), .int .i64 (16), .int .i64 (0), .int .i64 (0), .int .i64 (0), .int .i64 (16), .int .i64 (0), .int .i64 (0), .int .i64 (0)]) (by simp [results, Try.results72, go_sem]) rfl ⟨rfl, below1 w _⟩
end Go.Proofs.Ytobfccoljijnkaa
