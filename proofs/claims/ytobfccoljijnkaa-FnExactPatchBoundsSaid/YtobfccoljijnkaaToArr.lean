/- The laws' own copies of arrays, of transforms and of patches. -/
import Derived.Test.YtobfccoljijnkaaVec2
import Derived.WalkSmall
namespace Go.Proofs.Ytobfccoljijnkaa
open Go.RowKit

def out_toVecA4_any (p0 p1 p2 p3 p4 p5 p6 p7 p8 p9 p10 p11 : Int) : Nat → Array Value
  | 0 => #[.int .i64 (0), .int .i64 (0), .int .i64 (0), .int .i64 (0), .int .i64 (0), .int .i64 (0), .int .i64 (0), .int .i64 (0), .int .i64 (0), .int .i64 (0), .int .i64 (0), .int .i64 (0)]
  | 1 => #[.int .i64 (p0), .int .i64 (p1), .int .i64 (p2), .int .i64 (0), .int .i64 (0), .int .i64 (0), .int .i64 (0), .int .i64 (0), .int .i64 (0), .int .i64 (0), .int .i64 (0), .int .i64 (0)]
  | 2 => #[.int .i64 (p0), .int .i64 (p1), .int .i64 (p2), .int .i64 (p3), .int .i64 (p4), .int .i64 (p5), .int .i64 (0), .int .i64 (0), .int .i64 (0), .int .i64 (0), .int .i64 (0), .int .i64 (0)]
  | 3 => #[.int .i64 (p0), .int .i64 (p1), .int .i64 (p2), .int .i64 (p3), .int .i64 (p4), .int .i64 (p5), .int .i64 (p6), .int .i64 (p7), .int .i64 (p8), .int .i64 (0), .int .i64 (0), .int .i64 (0)]
  | _ => #[.int .i64 (p0), .int .i64 (p1), .int .i64 (p2), .int .i64 (p3), .int .i64 (p4), .int .i64 (p5), .int .i64 (p6), .int .i64 (p7), .int .i64 (p8), .int .i64 (p9), .int .i64 (p10), .int .i64 (p11)]
set_option maxHeartbeats 8000000 in
theorem toVecA4_any (p0 p1 p2 p3 p4 p5 p6 p7 p8 p9 p10 p11 : Int) (w : World) :
    Calls Try.prog 67 #[.agg #[.int .i64 (p0), .int .i64 (p1), .int .i64 (p2), .int .i64 (p3), .int .i64 (p4), .int .i64 (p5), .int .i64 (p6), .int .i64 (p7), .int .i64 (p8), .int .i64 (p9), .int .i64 (p10), .int .i64 (p11)]] w fun e w' => e = .returned (.agg #[.int .i64 (p0), .int .i64 (p1), .int .i64 (p2), .int .i64 (p3), .int .i64 (p4), .int .i64 (p5), .int .i64 (p6), .int .i64 (p7), .int .i64 (p8), .int .i64 (p9), .int .i64 (p10), .int .i64 (p11)]) ∧ Below w.heap.size w w' := by
  have hB0 := below3 w (.cells #[.int .i64 (p0), .int .i64 (p1), .int .i64 (p2), .int .i64 (p3), .int .i64 (p4), .int .i64 (p5), .int .i64 (p6), .int .i64 (p7), .int .i64 (p8), .int .i64 (p9), .int .i64 (p10), .int .i64 (p11)] 44) (.cells #[.int .i64 (0), .int .i64 (0), .int .i64 (0), .int .i64 (0), .int .i64 (0), .int .i64 (0), .int .i64 (0), .int .i64 (0), .int .i64 (0), .int .i64 (0), .int .i64 (0), .int .i64 (0)] 48) (.cells #[.int .i64 (0), .int .i64 (0), .int .i64 (0), .int .i64 (0), .int .i64 (0), .int .i64 (0), .int .i64 (0), .int .i64 (0), .int .i64 (0), .int .i64 (0), .int .i64 (0), .int .i64 (0)] 48)
  obtain ⟨b00, b10, b20⟩ := blk3 w #[.int .i64 (p0), .int .i64 (p1), .int .i64 (p2), .int .i64 (p3), .int .i64 (p4), .int .i64 (p5), .int .i64 (p6), .int .i64 (p7), .int .i64 (p8), .int .i64 (p9), .int .i64 (p10), .int .i64 (p11)] #[.int .i64 (0), .int .i64 (0), .int .i64 (0), .int .i64 (0), .int .i64 (0), .int .i64 (0), .int .i64 (0), .int .i64 (0), .int .i64 (0), .int .i64 (0), .int .i64 (0), .int .i64 (0)] #[.int .i64 (0), .int .i64 (0), .int .i64 (0), .int .i64 (0), .int .i64 (0), .int .i64 (0), .int .i64 (0), .int .i64 (0), .int .i64 (0), .int .i64 (0), .int .i64 (0), .int .i64 (0)] 44 48 48
  go_enter Try.func67, Try.ntmps67
  go_wp2
  generalize (((w.alloc (.cells #[.int .i64 (p0), .int .i64 (p1), .int .i64 (p2), .int .i64 (p3), .int .i64 (p4), .int .i64 (p5), .int .i64 (p6), .int .i64 (p7), .int .i64 (p8), .int .i64 (p9), .int .i64 (p10), .int .i64 (p11)] 44)).alloc (.cells #[.int .i64 (0), .int .i64 (0), .int .i64 (0), .int .i64 (0), .int .i64 (0), .int .i64 (0), .int .i64 (0), .int .i64 (0), .int .i64 (0), .int .i64 (0), .int .i64 (0), .int .i64 (0)] 48)).alloc (.cells #[.int .i64 (0), .int .i64 (0), .int .i64 (0), .int .i64 (0), .int .i64 (0), .int .i64 (0), .int .i64 (0), .int .i64 (0), .int .i64 (0), .int .i64 (0), .int .i64 (0), .int .i64 (0)] 48)) = W0 at hB0 b00 b10 b20 ⊢
  go_loopw [4] (fun i wr => ∃ k : Nat, k ≤ 4 ∧ i = .int .i64 k ∧ Blk wr w.heap.size 44 #[.int .i64 (p0), .int .i64 (p1), .int .i64 (p2), .int .i64 (p3), .int .i64 (p4), .int .i64 (p5), .int .i64 (p6), .int .i64 (p7), .int .i64 (p8), .int .i64 (p9), .int .i64 (p10), .int .i64 (p11)] ∧ Blk wr (w.heap.size + 1) 48 #[.int .i64 (0), .int .i64 (0), .int .i64 (0), .int .i64 (0), .int .i64 (0), .int .i64 (0), .int .i64 (0), .int .i64 (0), .int .i64 (0), .int .i64 (0), .int .i64 (0), .int .i64 (0)] ∧ Blk wr (w.heap.size + 1 + 1) 48 (out_toVecA4_any p0 p1 p2 p3 p4 p5 p6 p7 p8 p9 p10 p11 k) ∧ Below w.heap.size w wr) (fun i _ => 4 - (intOf i).toNat)
  case atStart => exact ⟨0, by omega, rfl, b00, b10, b20, hB0⟩
  case round =>
    obtain ⟨k, hk, rfl, b0, b1, b2', hB⟩ := hrel
    clear b00 b10 b20 hB0
    rcases (by omega : k = 0 ∨ k = 1 ∨ k = 2 ∨ k = 3 ∨ k = 4) with rfl | rfl | rfl | rfl | rfl
    · have b2 : Blk wr (w.heap.size + 1 + 1) 48 #[.int .i64 (0), .int .i64 (0), .int .i64 (0), .int .i64 (0), .int .i64 (0), .int .i64 (0), .int .i64 (0), .int .i64 (0), .int .i64 (0), .int .i64 (0), .int .i64 (0), .int .i64 (0)] := b2'
      clear b2'
      have c0 := b0.cell
      have f0 := b0.frozen
      have l0 := b0.lt
      have c1 := b1.cell
      have f1 := b1.frozen
      have l1 := b1.lt
      have c2 := b2.cell
      have f2 := b2.frozen
      have l2 := b2.lt
      go_wp2_with fail
      refine (toVec_any _ _ _ _).mono ?_
      rintro e w1 ⟨rfl, hb⟩
      have hB := (by with_reducible first | exact b_keep hb hB | exact b_keep hb hB.drew)
      replace b0 : Blk w1 _ _ _ := (by with_reducible first | exact Blk.keep hb b0 | exact Blk.keep hb b0.drew)
      replace b1 : Blk w1 _ _ _ := (by with_reducible first | exact Blk.keep hb b1 | exact Blk.keep hb b1.drew)
      replace b2 : Blk w1 _ _ _ := (by with_reducible first | exact Blk.keep hb b2 | exact Blk.keep hb b2.drew)
      replace l0 := b0.lt
      replace l1 := b1.lt
      replace l2 := b2.lt
      replace c0 := b0.cell
      replace c1 := b1.cell
      replace c2 := b2.cell
      replace f0 := b0.frozen
      replace f1 := b1.frozen
      replace f2 := b2.frozen
      clear hb
      go_wp2
      go_roundw
      case rel => exact ⟨1, by omega, by go_num, (((b0.far (p := ⟨w.heap.size + 1 + 1, 0, none⟩) (by dsimp only; omega) _).far (p := ⟨w.heap.size + 1 + 1, 1, none⟩) (by dsimp only; omega) _).far (p := ⟨w.heap.size + 1 + 1, 2, none⟩) (by dsimp only; omega) _), (((b1.far (p := ⟨w.heap.size + 1 + 1, 0, none⟩) (by dsimp only; omega) _).far (p := ⟨w.heap.size + 1 + 1, 1, none⟩) (by dsimp only; omega) _).far (p := ⟨w.heap.size + 1 + 1, 2, none⟩) (by dsimp only; omega) _), (((b2.set_ 0 _).set_ 1 _).set_ 2 _), (((hB.setCell (by dsimp only; omega) _).setCell (by dsimp only; omega) _).setCell (by dsimp only; omega) _)⟩
      case measure => simp [intOf]
    · have b2 : Blk wr (w.heap.size + 1 + 1) 48 #[.int .i64 (p0), .int .i64 (p1), .int .i64 (p2), .int .i64 (0), .int .i64 (0), .int .i64 (0), .int .i64 (0), .int .i64 (0), .int .i64 (0), .int .i64 (0), .int .i64 (0), .int .i64 (0)] := b2'
      clear b2'
      have c0 := b0.cell
      have f0 := b0.frozen
      have l0 := b0.lt
      have c1 := b1.cell
      have f1 := b1.frozen
      have l1 := b1.lt
      have c2 := b2.cell
      have f2 := b2.frozen
      have l2 := b2.lt
      go_wp2_with fail
      refine (toVec_any _ _ _ _).mono ?_
      rintro e w1 ⟨rfl, hb⟩
      have hB := (by with_reducible first | exact b_keep hb hB | exact b_keep hb hB.drew)
      replace b0 : Blk w1 _ _ _ := (by with_reducible first | exact Blk.keep hb b0 | exact Blk.keep hb b0.drew)
      replace b1 : Blk w1 _ _ _ := (by with_reducible first | exact Blk.keep hb b1 | exact Blk.keep hb b1.drew)
      replace b2 : Blk w1 _ _ _ := (by with_reducible first | exact Blk.keep hb b2 | exact Blk.keep hb b2.drew)
      replace l0 := b0.lt
      replace l1 := b1.lt
      replace l2 := b2.lt
      replace c0 := b0.cell
      replace c1 := b1.cell
      replace c2 := b2.cell
      replace f0 := b0.frozen
      replace f1 := b1.frozen
      replace f2 := b2.frozen
      clear hb
      go_wp2
      go_roundw
      case rel => exact ⟨2, by omega, by go_num, (((b0.far (p := ⟨w.heap.size + 1 + 1, 3, none⟩) (by dsimp only; omega) _).far (p := ⟨w.heap.size + 1 + 1, 4, none⟩) (by dsimp only; omega) _).far (p := ⟨w.heap.size + 1 + 1, 5, none⟩) (by dsimp only; omega) _), (((b1.far (p := ⟨w.heap.size + 1 + 1, 3, none⟩) (by dsimp only; omega) _).far (p := ⟨w.heap.size + 1 + 1, 4, none⟩) (by dsimp only; omega) _).far (p := ⟨w.heap.size + 1 + 1, 5, none⟩) (by dsimp only; omega) _), (((b2.set_ 3 _).set_ 4 _).set_ 5 _), (((hB.setCell (by dsimp only; omega) _).setCell (by dsimp only; omega) _).setCell (by dsimp only; omega) _)⟩
      case measure => simp [intOf]
    · have b2 : Blk wr (w.heap.size + 1 + 1) 48 #[.int .i64 (p0), .int .i64 (p1), .int .i64 (p2), .int .i64 (p3), .int .i64 (p4), .int .i64 (p5), .int .i64 (0), .int .i64 (0), .int .i64 (0), .int .i64 (0), .int .i64 (0), .int .i64 (0)] := b2'
      clear b2'
      have c0 := b0.cell
      have f0 := b0.frozen
      have l0 := b0.lt
      have c1 := b1.cell
      have f1 := b1.frozen
      have l1 := b1.lt
      have c2 := b2.cell
      have f2 := b2.frozen
      have l2 := b2.lt
      go_wp2_with fail
      refine (toVec_any _ _ _ _).mono ?_
      rintro e w1 ⟨rfl, hb⟩
      have hB := (by with_reducible first | exact b_keep hb hB | exact b_keep hb hB.drew)
      replace b0 : Blk w1 _ _ _ := (by with_reducible first | exact Blk.keep hb b0 | exact Blk.keep hb b0.drew)
      replace b1 : Blk w1 _ _ _ := (by with_reducible first | exact Blk.keep hb b1 | exact Blk.keep hb b1.drew)
      replace b2 : Blk w1 _ _ _ := (by with_reducible first | exact Blk.keep hb b2 | exact Blk.keep hb b2.drew)
      replace l0 := b0.lt
      replace l1 := b1.lt
      replace l2 := b2.lt
      replace c0 := b0.cell
      replace c1 := b1.cell
      replace c2 := b2.cell
      replace f0 := b0.frozen
      replace f1 := b1.frozen
      replace f2 := b2.frozen
      clear hb
      go_wp2
      go_roundw
      case rel => exact ⟨3, by omega, by go_num, (((b0.far (p := ⟨w.heap.size + 1 + 1, 6, none⟩) (by dsimp only; omega) _).far (p := ⟨w.heap.size + 1 + 1, 7, none⟩) (by dsimp only; omega) _).far (p := ⟨w.heap.size + 1 + 1, 8, none⟩) (by dsimp only; omega) _), (((b1.far (p := ⟨w.heap.size + 1 + 1, 6, none⟩) (by dsimp only; omega) _).far (p := ⟨w.heap.size + 1 + 1, 7, none⟩) (by dsimp only; omega) _).far (p := ⟨w.heap.size + 1 + 1, 8, none⟩) (by dsimp only; omega) _), (((b2.set_ 6 _).set_ 7 _).set_ 8 _), (((hB.setCell (by dsimp only; omega) _).setCell (by dsimp only; omega) _).setCell (by dsimp only; omega) _)⟩
      case measure => simp [intOf]
    · have b2 : Blk wr (w.heap.size + 1 + 1) 48 #[.int .i64 (p0), .int .i64 (p1), .int .i64 (p2), .int .i64 (p3), .int .i64 (p4), .int .i64 (p5), .int .i64 (p6), .int .i64 (p7), .int .i64 (p8), .int .i64 (0), .int .i64 (0), .int .i64 (0)] := b2'
      clear b2'
      have c0 := b0.cell
      have f0 := b0.frozen
      have l0 := b0.lt
      have c1 := b1.cell
      have f1 := b1.frozen
      have l1 := b1.lt
      have c2 := b2.cell
      have f2 := b2.frozen
      have l2 := b2.lt
      go_wp2_with fail
      refine (toVec_any _ _ _ _).mono ?_
      rintro e w1 ⟨rfl, hb⟩
      have hB := (by with_reducible first | exact b_keep hb hB | exact b_keep hb hB.drew)
      replace b0 : Blk w1 _ _ _ := (by with_reducible first | exact Blk.keep hb b0 | exact Blk.keep hb b0.drew)
      replace b1 : Blk w1 _ _ _ := (by with_reducible first | exact Blk.keep hb b1 | exact Blk.keep hb b1.drew)
      replace b2 : Blk w1 _ _ _ := (by with_reducible first | exact Blk.keep hb b2 | exact Blk.keep hb b2.drew)
      replace l0 := b0.lt
      replace l1 := b1.lt
      replace l2 := b2.lt
      replace c0 := b0.cell
      replace c1 := b1.cell
      replace c2 := b2.cell
      replace f0 := b0.frozen
      replace f1 := b1.frozen
      replace f2 := b2.frozen
      clear hb
      go_wp2
      go_roundw
      case rel => exact ⟨4, by omega, by go_num, (((b0.far (p := ⟨w.heap.size + 1 + 1, 9, none⟩) (by dsimp only; omega) _).far (p := ⟨w.heap.size + 1 + 1, 10, none⟩) (by dsimp only; omega) _).far (p := ⟨w.heap.size + 1 + 1, 11, none⟩) (by dsimp only; omega) _), (((b1.far (p := ⟨w.heap.size + 1 + 1, 9, none⟩) (by dsimp only; omega) _).far (p := ⟨w.heap.size + 1 + 1, 10, none⟩) (by dsimp only; omega) _).far (p := ⟨w.heap.size + 1 + 1, 11, none⟩) (by dsimp only; omega) _), (((b2.set_ 9 _).set_ 10 _).set_ 11 _), (((hB.setCell (by dsimp only; omega) _).setCell (by dsimp only; omega) _).setCell (by dsimp only; omega) _)⟩
      case measure => simp [intOf]
    · have b2 : Blk wr (w.heap.size + 1 + 1) 48 #[.int .i64 (p0), .int .i64 (p1), .int .i64 (p2), .int .i64 (p3), .int .i64 (p4), .int .i64 (p5), .int .i64 (p6), .int .i64 (p7), .int .i64 (p8), .int .i64 (p9), .int .i64 (p10), .int .i64 (p11)] := b2'
      clear b2'
      have c0 := b0.cell
      have f0 := b0.frozen
      have l0 := b0.lt
      have c1 := b1.cell
      have f1 := b1.frozen
      have l1 := b1.lt
      have c2 := b2.cell
      have f2 := b2.frozen
      have l2 := b2.lt
      go_wp2
      exact bodyPost_ret (v := .agg #[.int .i64 (p0), .int .i64 (p1), .int .i64 (p2), .int .i64 (p3), .int .i64 (p4), .int .i64 (p5), .int .i64 (p6), .int .i64 (p7), .int .i64 (p8), .int .i64 (p9), .int .i64 (p10), .int .i64 (p11)]) (by simp [results, Try.results67, go_sem, c1]) rfl ⟨rfl, ((((((((((((hB.setCell (by dsimp only; omega) _).setCell (by dsimp only; omega) _).setCell (by dsimp only; omega) _).setCell (by dsimp only; omega) _).setCell (by dsimp only; omega) _).setCell (by dsimp only; omega) _).setCell (by dsimp only; omega) _).setCell (by dsimp only; omega) _).setCell (by dsimp only; omega) _).setCell (by dsimp only; omega) _).setCell (by dsimp only; omega) _).setCell (by dsimp only; omega) _)⟩
set_option maxHeartbeats 8000000 in
theorem toPatch_any (p0 p1 p2 p3 p4 p5 p6 p7 p8 p9 p10 p11 : Int) (w : World) :
    Calls Try.prog 27 #[.agg #[.int .i64 (p0), .int .i64 (p1), .int .i64 (p2), .int .i64 (p3), .int .i64 (p4), .int .i64 (p5), .int .i64 (p6), .int .i64 (p7), .int .i64 (p8), .int .i64 (p9), .int .i64 (p10), .int .i64 (p11)]] w fun e w' => e = .returned (.agg #[.int .i64 (p0), .int .i64 (p1), .int .i64 (p2), .int .i64 (p3), .int .i64 (p4), .int .i64 (p5), .int .i64 (p6), .int .i64 (p7), .int .i64 (p8), .int .i64 (p9), .int .i64 (p10), .int .i64 (p11)]) ∧ Below w.heap.size w w' := by
  have hB := below3 w (.cells #[.int .i64 (p0), .int .i64 (p1), .int .i64 (p2), .int .i64 (p3), .int .i64 (p4), .int .i64 (p5), .int .i64 (p6), .int .i64 (p7), .int .i64 (p8), .int .i64 (p9), .int .i64 (p10), .int .i64 (p11)] 46) (.cells #[.int .i64 (0), .int .i64 (0), .int .i64 (0), .int .i64 (0), .int .i64 (0), .int .i64 (0), .int .i64 (0), .int .i64 (0), .int .i64 (0), .int .i64 (0), .int .i64 (0), .int .i64 (0)] 50) (.cells #[.int .i64 (0), .int .i64 (0), .int .i64 (0), .int .i64 (0), .int .i64 (0), .int .i64 (0), .int .i64 (0), .int .i64 (0), .int .i64 (0), .int .i64 (0), .int .i64 (0), .int .i64 (0)] 50)
  obtain ⟨b0, b1, b2⟩ := blk3 w #[.int .i64 (p0), .int .i64 (p1), .int .i64 (p2), .int .i64 (p3), .int .i64 (p4), .int .i64 (p5), .int .i64 (p6), .int .i64 (p7), .int .i64 (p8), .int .i64 (p9), .int .i64 (p10), .int .i64 (p11)] #[.int .i64 (0), .int .i64 (0), .int .i64 (0), .int .i64 (0), .int .i64 (0), .int .i64 (0), .int .i64 (0), .int .i64 (0), .int .i64 (0), .int .i64 (0), .int .i64 (0), .int .i64 (0)] #[.int .i64 (0), .int .i64 (0), .int .i64 (0), .int .i64 (0), .int .i64 (0), .int .i64 (0), .int .i64 (0), .int .i64 (0), .int .i64 (0), .int .i64 (0), .int .i64 (0), .int .i64 (0)] 46 50 50
  go_enter Try.func27, Try.ntmps27
  go_wp2_with fail
  generalize (((w.alloc (.cells #[.int .i64 (p0), .int .i64 (p1), .int .i64 (p2), .int .i64 (p3), .int .i64 (p4), .int .i64 (p5), .int .i64 (p6), .int .i64 (p7), .int .i64 (p8), .int .i64 (p9), .int .i64 (p10), .int .i64 (p11)] 46)).alloc (.cells #[.int .i64 (0), .int .i64 (0), .int .i64 (0), .int .i64 (0), .int .i64 (0), .int .i64 (0), .int .i64 (0), .int .i64 (0), .int .i64 (0), .int .i64 (0), .int .i64 (0), .int .i64 (0)] 50)).alloc (.cells #[.int .i64 (0), .int .i64 (0), .int .i64 (0), .int .i64 (0), .int .i64 (0), .int .i64 (0), .int .i64 (0), .int .i64 (0), .int .i64 (0), .int .i64 (0), .int .i64 (0), .int .i64 (0)] 50)) = W0 at hB b0 b1 b2 ⊢
  have c0 := b0.cell
  have f0 := b0.frozen
  have l0 := b0.lt
  have c1 := b1.cell
  have f1 := b1.frozen
  have l1 := b1.lt
  have c2 := b2.cell
  have f2 := b2.frozen
  have l2 := b2.lt
  refine (toVecA4_any _ _ _ _ _ _ _ _ _ _ _ _ _).mono ?_
  rintro e w1 ⟨rfl, hb⟩
  have hB := (by with_reducible first | exact b_keep hb hB | exact b_keep hb hB.drew)
  replace b0 : Blk w1 _ _ _ := (by with_reducible first | exact Blk.keep hb b0 | exact Blk.keep hb b0.drew)
  replace b1 : Blk w1 _ _ _ := (by with_reducible first | exact Blk.keep hb b1 | exact Blk.keep hb b1.drew)
  replace b2 : Blk w1 _ _ _ := (by with_reducible first | exact Blk.keep hb b2 | exact Blk.keep hb b2.drew)
  replace l0 := b0.lt
  replace l1 := b1.lt
  replace l2 := b2.lt
  replace c0 := b0.cell
  replace c1 := b1.cell
  replace c2 := b2.cell
  replace f0 := b0.frozen
  replace f1 := b1.frozen
  replace f2 := b2.frozen
  clear hb
  go_wp2
  exact bodyPost_ret (v := .agg #[.int .i64 (p0), .int .i64 (p1), .int .i64 (p2), .int .i64 (p3), .int .i64 (p4), .int .i64 (p5), .int .i64 (p6), .int .i64 (p7), .int .i64 (p8), .int .i64 (p9), .int .i64 (p10), .int .i64 (p11)]) (by simp [results, Try.results27, go_sem, c1]) rfl ⟨rfl, ((((((((((((((((((((((((hB.setCell (by dsimp only; omega) _).setCell (by dsimp only; omega) _).setCell (by dsimp only; omega) _).setCell (by dsimp only; omega) _).setCell (by dsimp only; omega) _).setCell (by dsimp only; omega) _).setCell (by dsimp only; omega) _).setCell (by dsimp only; omega) _).setCell (by dsimp only; omega) _).setCell (by dsimp only; omega) _).setCell (by dsimp only; omega) _).setCell (by dsimp only; omega) _).setCell (by dsimp only; omega) _).setCell (by dsimp only; omega) _).setCell (by dsimp only; omega) _).setCell (by dsimp only; omega) _).setCell (by dsimp only; omega) _).setCell (by dsimp only; omega) _).setCell (by dsimp only; omega) _).setCell (by dsimp only; omega) _).setCell (by dsimp only; omega) _).setCell (by dsimp only; omega) _).setCell (by dsimp only; omega) _).setCell (by dsimp only; omega) _)⟩
end Go.Proofs.Ytobfccoljijnkaa
