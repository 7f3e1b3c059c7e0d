/- The program's QuarterTurn, axis x. -/
import Derived.Test.YtobfccoljijnkaaQuartIH
namespace Go.Proofs.Ytobfccoljijnkaa
open Go.RowKit

set_option maxRecDepth 100000 in
set_option maxHeartbeats 8000000 in
theorem quartIx (axis : Int) (ha : inB axis 0 2 = false) (k : Int) (w : World) :
    Calls Try.prog 33 #[.int .i64 axis, .int .i64 k] w fun e w' => e = .returned (.agg #[.int .i64 (16), .int .i64 (0), .int .i64 (0), .int .i64 (0), .int .i64 (16), .int .i64 (0), .int .i64 (0), .int .i64 (0), .int .i64 (16), .int .i64 (0), .int .i64 (0), .int .i64 (0)]) ∧ Below w.heap.size w w' := by
  have hB := below2 w (.cells #[.int .i64 (0), .int .i64 (0), .int .i64 (0), .int .i64 (0), .int .i64 (0), .int .i64 (0), .int .i64 (0), .int .i64 (0), .int .i64 (0), .int .i64 (0), .int .i64 (0), .int .i64 (0)] 56) (.cells #[.int .i64 (0), .int .i64 (0), .int .i64 (0), .int .i64 (0), .int .i64 (0), .int .i64 (0), .int .i64 (0), .int .i64 (0), .int .i64 (0), .int .i64 (0), .int .i64 (0), .int .i64 (0), .int .i64 (0), .int .i64 (0), .int .i64 (0), .int .i64 (0), .int .i64 (0), .int .i64 (0), .int .i64 (0), .int .i64 (0), .int .i64 (0), .int .i64 (0), .int .i64 (0), .int .i64 (0), .int .i64 (0), .int .i64 (0), .int .i64 (0)] 101)
  obtain ⟨b0, b1⟩ := blk2 w #[.int .i64 (0), .int .i64 (0), .int .i64 (0), .int .i64 (0), .int .i64 (0), .int .i64 (0), .int .i64 (0), .int .i64 (0), .int .i64 (0), .int .i64 (0), .int .i64 (0), .int .i64 (0)] #[.int .i64 (0), .int .i64 (0), .int .i64 (0), .int .i64 (0), .int .i64 (0), .int .i64 (0), .int .i64 (0), .int .i64 (0), .int .i64 (0), .int .i64 (0), .int .i64 (0), .int .i64 (0), .int .i64 (0), .int .i64 (0), .int .i64 (0), .int .i64 (0), .int .i64 (0), .int .i64 (0), .int .i64 (0), .int .i64 (0), .int .i64 (0), .int .i64 (0), .int .i64 (0), .int .i64 (0), .int .i64 (0), .int .i64 (0), .int .i64 (0)] 56 101
  have hB := below_setRow (g := w.heap.size + 1) hB (by omega) #[.int .i64 (16), .int .i64 (0), .int .i64 (0), .int .i64 (0), .int .i64 (0), .int .i64 (-16), .int .i64 (0), .int .i64 (16), .int .i64 (0), .int .i64 (0), .int .i64 (0), .int .i64 (16), .int .i64 (0), .int .i64 (16), .int .i64 (0), .int .i64 (-16), .int .i64 (0), .int .i64 (0), .int .i64 (0), .int .i64 (-16), .int .i64 (0), .int .i64 (16), .int .i64 (0), .int .i64 (0), .int .i64 (0), .int .i64 (0), .int .i64 (16)]
  have b1 : Blk _ (w.heap.size + 1) 101 #[.int .i64 (16), .int .i64 (0), .int .i64 (0), .int .i64 (0), .int .i64 (0), .int .i64 (-16), .int .i64 (0), .int .i64 (16), .int .i64 (0), .int .i64 (0), .int .i64 (0), .int .i64 (16), .int .i64 (0), .int .i64 (16), .int .i64 (0), .int .i64 (-16), .int .i64 (0), .int .i64 (0), .int .i64 (0), .int .i64 (-16), .int .i64 (0), .int .i64 (16), .int .i64 (0), .int .i64 (0), .int .i64 (0), .int .i64 (0), .int .i64 (16)] := setRow_heap _ (w.heap.size + 1) _ #[.int .i64 (16), .int .i64 (0), .int .i64 (0), .int .i64 (0), .int .i64 (0), .int .i64 (-16), .int .i64 (0), .int .i64 (16), .int .i64 (0), .int .i64 (0), .int .i64 (0), .int .i64 (16), .int .i64 (0), .int .i64 (16), .int .i64 (0), .int .i64 (-16), .int .i64 (0), .int .i64 (0), .int .i64 (0), .int .i64 (-16), .int .i64 (0), .int .i64 (16), .int .i64 (0), .int .i64 (0), .int .i64 (0), .int .i64 (0), .int .i64 (16)] _ _ b1
  have b0 : Blk _ w.heap.size 56 #[.int .i64 (0), .int .i64 (0), .int .i64 (0), .int .i64 (0), .int .i64 (0), .int .i64 (0), .int .i64 (0), .int .i64 (0), .int .i64 (0), .int .i64 (0), .int .i64 (0), .int .i64 (0)] := (setRow_other _ (w.heap.size + 1) w.heap.size #[.int .i64 (16), .int .i64 (0), .int .i64 (0), .int .i64 (0), .int .i64 (0), .int .i64 (-16), .int .i64 (0), .int .i64 (16), .int .i64 (0), .int .i64 (0), .int .i64 (0), .int .i64 (16), .int .i64 (0), .int .i64 (16), .int .i64 (0), .int .i64 (-16), .int .i64 (0), .int .i64 (0), .int .i64 (0), .int .i64 (-16), .int .i64 (0), .int .i64 (16), .int .i64 (0), .int .i64 (0), .int .i64 (0), .int .i64 (0), .int .i64 (16)] (by omega)).trans b0
  have HX := Lib.hid (blk2 w #[.int .i64 (0), .int .i64 (0), .int .i64 (0), .int .i64 (0), .int .i64 (0), .int .i64 (0), .int .i64 (0), .int .i64 (0), .int .i64 (0), .int .i64 (0), .int .i64 (0), .int .i64 (0)] #[.int .i64 (0), .int .i64 (0), .int .i64 (0), .int .i64 (0), .int .i64 (0), .int .i64 (0), .int .i64 (0), .int .i64 (0), .int .i64 (0), .int .i64 (0), .int .i64 (0), .int .i64 (0), .int .i64 (0), .int .i64 (0), .int .i64 (0), .int .i64 (0), .int .i64 (0), .int .i64 (0), .int .i64 (0), .int .i64 (0), .int .i64 (0), .int .i64 (0), .int .i64 (0), .int .i64 (0), .int .i64 (0), .int .i64 (0), .int .i64 (0)] 56 101).2
  obtain ⟨WW, hWW⟩ : ∃ WW, WW = ((w.alloc (.cells #[.int .i64 (0), .int .i64 (0), .int .i64 (0), .int .i64 (0), .int .i64 (0), .int .i64 (0), .int .i64 (0), .int .i64 (0), .int .i64 (0), .int .i64 (0), .int .i64 (0), .int .i64 (0)] 56)).alloc (.cells #[.int .i64 (0), .int .i64 (0), .int .i64 (0), .int .i64 (0), .int .i64 (0), .int .i64 (0), .int .i64 (0), .int .i64 (0), .int .i64 (0), .int .i64 (0), .int .i64 (0), .int .i64 (0), .int .i64 (0), .int .i64 (0), .int .i64 (0), .int .i64 (0), .int .i64 (0), .int .i64 (0), .int .i64 (0), .int .i64 (0), .int .i64 (0), .int .i64 (0), .int .i64 (0), .int .i64 (0), .int .i64 (0), .int .i64 (0), .int .i64 (0)] 101)).setRow (w.heap.size + 1) #[.int .i64 (16), .int .i64 (0), .int .i64 (0), .int .i64 (0), .int .i64 (0), .int .i64 (-16), .int .i64 (0), .int .i64 (16), .int .i64 (0), .int .i64 (0), .int .i64 (0), .int .i64 (16), .int .i64 (0), .int .i64 (16), .int .i64 (0), .int .i64 (-16), .int .i64 (0), .int .i64 (0), .int .i64 (0), .int .i64 (-16), .int .i64 (0), .int .i64 (16), .int .i64 (0), .int .i64 (0), .int .i64 (0), .int .i64 (0), .int .i64 (16)] := ⟨_, rfl⟩
  rw [← hWW] at hB b0 b1
  have HW := Lib.hid hWW
  have hB' := Lib.hid hB
  have b0' := Lib.hid b0
  have b1' := Lib.hid b1
  clear hB b0 b1 hWW
  go_enter Try.func33, Try.ntmps33
  go_upto_region 2 with (refine wp_store_row 101 (.tmp 5) (.tmp 10) rfl (w.heap.size + 1) #[.int .i64 (16), .int .i64 (0), .int .i64 (0), .int .i64 (0), .int .i64 (0), .int .i64 (-16), .int .i64 (0), .int .i64 (16), .int .i64 (0), .int .i64 (0), .int .i64 (0), .int .i64 (16), .int .i64 (0), .int .i64 (16), .int .i64 (0), .int .i64 (-16), .int .i64 (0), .int .i64 (0), .int .i64 (0), .int .i64 (-16), .int .i64 (0), .int .i64 (16), .int .i64 (0), .int .i64 (0), .int .i64 (0), .int .i64 (0), .int .i64 (16)] rfl rfl 101 #[.int .i64 (0), .int .i64 (0), .int .i64 (0), .int .i64 (0), .int .i64 (0), .int .i64 (0), .int .i64 (0), .int .i64 (0), .int .i64 (0), .int .i64 (0), .int .i64 (0), .int .i64 (0), .int .i64 (0), .int .i64 (0), .int .i64 (0), .int .i64 (0), .int .i64 (0), .int .i64 (0), .int .i64 (0), .int .i64 (0), .int .i64 (0), .int .i64 (0), .int .i64 (0), .int .i64 (0), .int .i64 (0), .int .i64 (0), .int .i64 (0)] HX.out (by kernel_rfl) (by kernel_rfl) (by kernel_rfl) ?_; rw [← HW.out])
  have hB := hB'.out
  have b0 := b0'.out
  have b1 := b1'.out
  clear hB' b0' b1' HX
  clear HW
  generalize WW = W0 at hB b0 b1 ⊢
  simp only [Act.put]
  generalize Value.agg #[.int .i64 (16), .int .i64 (0), .int .i64 (0), .int .i64 (0), .int .i64 (0), .int .i64 (-16), .int .i64 (0), .int .i64 (16), .int .i64 (0), .int .i64 (0), .int .i64 (0), .int .i64 (16), .int .i64 (0), .int .i64 (16), .int .i64 (0), .int .i64 (-16), .int .i64 (0), .int .i64 (0), .int .i64 (0), .int .i64 (-16), .int .i64 (0), .int .i64 (16), .int .i64 (0), .int .i64 (0), .int .i64 (0), .int .i64 (0), .int .i64 (16)] = z10
  generalize Value.agg #[.int .i64 (16), .int .i64 (0), .int .i64 (0), .int .i64 (0), .int .i64 (0), .int .i64 (-16), .int .i64 (0), .int .i64 (16), .int .i64 (0)] = z7
  generalize Value.agg #[.int .i64 (0), .int .i64 (0), .int .i64 (16), .int .i64 (0), .int .i64 (16), .int .i64 (0), .int .i64 (-16), .int .i64 (0), .int .i64 (0)] = z8
  generalize Value.agg #[.int .i64 (0), .int .i64 (-16), .int .i64 (0), .int .i64 (16), .int .i64 (0), .int .i64 (0), .int .i64 (0), .int .i64 (0), .int .i64 (16)] = z9
  have c0 := b0.cell
  have f0 := b0.frozen
  have l0 := b0.lt
  have c1 := b1.cell
  have f1 := b1.frozen
  have l1 := b1.lt
  go_wp2_with fail
  refine (identityI _).mono ?_
  rintro e w1 ⟨rfl, hb⟩
  have hB := (by with_reducible first | exact b_keep hb hB | exact b_keep hb hB.drew)
  replace b0 : Blk w1 _ _ _ := (by with_reducible first | exact Blk.keep hb b0 | exact Blk.keep hb b0.drew)
  replace b1 : Blk w1 _ _ _ := (by with_reducible first | exact Blk.keep hb b1 | exact Blk.keep hb b1.drew)
  replace l0 := b0.lt
  replace l1 := b1.lt
  replace c0 := b0.cell
  replace c1 := b1.cell
  replace f0 := b0.frozen
  replace f1 := b1.frozen
  clear hb
  go_wp2_with fail
  have d2_0 := b0.lt
  have d2_1 := b1.lt
  have g2 := hB.size
  replace b0 := b0.alloc (.cells #[.int .i64 (16), .int .i64 (0), .int .i64 (0), .int .i64 (0), .int .i64 (16), .int .i64 (0), .int .i64 (0), .int .i64 (0), .int .i64 (16), .int .i64 (0), .int .i64 (0), .int .i64 (0)] 56)
  replace b1 := b1.alloc (.cells #[.int .i64 (16), .int .i64 (0), .int .i64 (0), .int .i64 (0), .int .i64 (16), .int .i64 (0), .int .i64 (0), .int .i64 (0), .int .i64 (16), .int .i64 (0), .int .i64 (0), .int .i64 (0)] 56)
  have b2 := Blk.new w1 56 #[.int .i64 (16), .int .i64 (0), .int .i64 (0), .int .i64 (0), .int .i64 (16), .int .i64 (0), .int .i64 (0), .int .i64 (0), .int .i64 (16), .int .i64 (0), .int .i64 (0), .int .i64 (0)]
  replace hB := hB.alloc hB.size (.cells #[.int .i64 (16), .int .i64 (0), .int .i64 (0), .int .i64 (0), .int .i64 (16), .int .i64 (0), .int .i64 (0), .int .i64 (0), .int .i64 (16), .int .i64 (0), .int .i64 (0), .int .i64 (0)] 56)
  clear c0 f0 l0 c1 f1 l1
  generalize w1.heap.size = q2 at b2 g2 d2_0 d2_1 ⊢
  generalize w1.alloc (.cells #[.int .i64 (16), .int .i64 (0), .int .i64 (0), .int .i64 (0), .int .i64 (16), .int .i64 (0), .int .i64 (0), .int .i64 (0), .int .i64 (16), .int .i64 (0), .int .i64 (0), .int .i64 (0)] 56) = W2 at hB b0 b1 b2 ⊢
  have c0 := b0.cell
  have f0 := b0.frozen
  have l0 := b0.lt
  have c1 := b1.cell
  have f1 := b1.frozen
  have l1 := b1.lt
  have c2 := b2.cell
  have f2 := b2.frozen
  have l2 := b2.lt
  refine (within_any _ _ _ _).mono ?_
  rintro e w2 ⟨rfl, rfl⟩
  rw [ha]
  go_wp2
  exact bodyPost_ret (v := .agg #[.int .i64 (16), .int .i64 (0), .int .i64 (0), .int .i64 (0), .int .i64 (16), .int .i64 (0), .int .i64 (0), .int .i64 (0), .int .i64 (16), .int .i64 (0), .int .i64 (0), .int .i64 (0)]) (by simp [results, Try.results33, go_sem, c0]) rfl ⟨rfl, ((((((((((((hB.setCell (by dsimp only; omega) _).setCell (by dsimp only; omega) _).setCell (by dsimp only; omega) _).setCell (by dsimp only; omega) _).setCell (by dsimp only; omega) _).setCell (by dsimp only; omega) _).setCell (by dsimp only; omega) _).setCell (by dsimp only; omega) _).setCell (by dsimp only; omega) _).setCell (by dsimp only; omega) _).setCell (by dsimp only; omega) _).setCell (by dsimp only; omega) _)⟩
end Go.Proofs.Ytobfccoljijnkaa
