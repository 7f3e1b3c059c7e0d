/- PatchBounds, of the program and of the reference. -/
import Derived.Test.YtobfccoljijnkaaBndI
import Derived.Test.YtobfccoljijnkaaEv0
namespace Go.Proofs.Ytobfccoljijnkaa
open Go.RowKit

theorem triAt_patch (p0 p1 p2 p3 p4 p5 p6 p7 p8 p9 p10 p11 : Int) {w : World} {g : Nat} {t : TypeId} (h : Blk w g t #[.int .i64 (p0), .int .i64 (p1), .int .i64 (p2), .int .i64 (p3), .int .i64 (p4), .int .i64 (p5), .int .i64 (p6), .int .i64 (p7), .int .i64 (p8), .int .i64 (p9), .int .i64 (p10), .int .i64 (p11)]) :
    TriAt w (.slice (some ⟨g, 0, none⟩) 4 4) 4 (cx p0 p3 p6 p9) (cx p1 p4 p7 p10) (cx p2 p5 p8 p11) := by
  refine ⟨_, _, rfl, Nat.le_refl _, fun _ => ⟨g, 0, rfl, h.lt, fun i hi => ?_⟩⟩
  rcases (by omega : i = 0 ∨ i = 1 ∨ i = 2 ∨ i = 3) with rfl | rfl | rfl | rfl <;> exact ⟨h.cell _, h.cell _, h.cell _⟩
set_option maxHeartbeats 2000000 in
theorem patchBoundsS (p0 p1 p2 p3 p4 p5 p6 p7 p8 p9 p10 p11 : Int) (w : World) :
    Calls Try.prog 38 #[.agg #[.int .i64 (p0), .int .i64 (p1), .int .i64 (p2), .int .i64 (p3), .int .i64 (p4), .int .i64 (p5), .int .i64 (p6), .int .i64 (p7), .int .i64 (p8), .int .i64 (p9), .int .i64 (p10), .int .i64 (p11)]] w fun r w' => r = .returned (.agg #[.int .i64 (bpL (cx p0 p3 p6 p9) 4), .int .i64 (bpL (cx p1 p4 p7 p10) 4), .int .i64 (bpL (cx p2 p5 p8 p11) 4), .int .i64 (bpH (cx p0 p3 p6 p9) 4), .int .i64 (bpH (cx p1 p4 p7 p10) 4), .int .i64 (bpH (cx p2 p5 p8 p11) 4)]) ∧ Below w.heap.size w w' := by
  have hB := below2 w (.cells #[.int .i64 (p0), .int .i64 (p1), .int .i64 (p2), .int .i64 (p3), .int .i64 (p4), .int .i64 (p5), .int .i64 (p6), .int .i64 (p7), .int .i64 (p8), .int .i64 (p9), .int .i64 (p10), .int .i64 (p11)] 50) (.cells #[.int .i64 (0), .int .i64 (0), .int .i64 (0), .int .i64 (0), .int .i64 (0), .int .i64 (0)] 28)
  obtain ⟨b0, b1⟩ := blk2 w #[.int .i64 (p0), .int .i64 (p1), .int .i64 (p2), .int .i64 (p3), .int .i64 (p4), .int .i64 (p5), .int .i64 (p6), .int .i64 (p7), .int .i64 (p8), .int .i64 (p9), .int .i64 (p10), .int .i64 (p11)] #[.int .i64 (0), .int .i64 (0), .int .i64 (0), .int .i64 (0), .int .i64 (0), .int .i64 (0)] 50 28
  have hT := triAt_patch p0 p1 p2 p3 p4 p5 p6 p7 p8 p9 p10 p11 b0
  go_enter Try.func38, Try.ntmps38
  go_wp2_with fail
  revert hT
  generalize ((w.alloc (.cells #[.int .i64 (p0), .int .i64 (p1), .int .i64 (p2), .int .i64 (p3), .int .i64 (p4), .int .i64 (p5), .int .i64 (p6), .int .i64 (p7), .int .i64 (p8), .int .i64 (p9), .int .i64 (p10), .int .i64 (p11)] 50)).alloc (.cells #[.int .i64 (0), .int .i64 (0), .int .i64 (0), .int .i64 (0), .int .i64 (0), .int .i64 (0)] 28)) = W0 at hB b0 b1 ⊢
  intro hT
  refine (boundS _ 4 (cx p0 p3 p6 p9) (cx p1 p4 p7 p10) (cx p2 p5 p8 p11) _ hT (by omega)).mono ?_
  rintro e w1 ⟨rfl, hb⟩
  replace hB := b_keep hb hB
  replace b0 : Blk w1 _ _ _ := Blk.keep hb b0
  replace b1 : Blk w1 _ _ _ := Blk.keep hb b1
  clear hb hT
  have c0 := b0.cell
  have f0 := b0.frozen
  have l0 := b0.lt
  have c1 := b1.cell
  have f1 := b1.frozen
  have l1 := b1.lt
  go_upto_region 2 with fail
  have d2_0 := b0.lt
  have d2_1 := b1.lt
  have g2 := hB.size
  replace b0 := b0.alloc (.cells #[.int .i64 (bpL (cx p0 p3 p6 p9) 4), .int .i64 (bpL (cx p1 p4 p7 p10) 4), .int .i64 (bpL (cx p2 p5 p8 p11) 4), .int .i64 (bpH (cx p0 p3 p6 p9) 4), .int .i64 (bpH (cx p1 p4 p7 p10) 4), .int .i64 (bpH (cx p2 p5 p8 p11) 4)] 28)
  replace b1 := b1.alloc (.cells #[.int .i64 (bpL (cx p0 p3 p6 p9) 4), .int .i64 (bpL (cx p1 p4 p7 p10) 4), .int .i64 (bpL (cx p2 p5 p8 p11) 4), .int .i64 (bpH (cx p0 p3 p6 p9) 4), .int .i64 (bpH (cx p1 p4 p7 p10) 4), .int .i64 (bpH (cx p2 p5 p8 p11) 4)] 28)
  have b2 := Blk.new w1 28 #[.int .i64 (bpL (cx p0 p3 p6 p9) 4), .int .i64 (bpL (cx p1 p4 p7 p10) 4), .int .i64 (bpL (cx p2 p5 p8 p11) 4), .int .i64 (bpH (cx p0 p3 p6 p9) 4), .int .i64 (bpH (cx p1 p4 p7 p10) 4), .int .i64 (bpH (cx p2 p5 p8 p11) 4)]
  replace hB := hB.alloc hB.size (.cells #[.int .i64 (bpL (cx p0 p3 p6 p9) 4), .int .i64 (bpL (cx p1 p4 p7 p10) 4), .int .i64 (bpL (cx p2 p5 p8 p11) 4), .int .i64 (bpH (cx p0 p3 p6 p9) 4), .int .i64 (bpH (cx p1 p4 p7 p10) 4), .int .i64 (bpH (cx p2 p5 p8 p11) 4)] 28)
  clear c0 f0 l0 c1 f1 l1
  generalize w1.heap.size = q2 at b2 g2 d2_0 d2_1 ⊢
  generalize w1.alloc (.cells #[.int .i64 (bpL (cx p0 p3 p6 p9) 4), .int .i64 (bpL (cx p1 p4 p7 p10) 4), .int .i64 (bpL (cx p2 p5 p8 p11) 4), .int .i64 (bpH (cx p0 p3 p6 p9) 4), .int .i64 (bpH (cx p1 p4 p7 p10) 4), .int .i64 (bpH (cx p2 p5 p8 p11) 4)] 28) = W2 at hB b0 b1 b2 ⊢
  have c0 := b0.cell
  have f0 := b0.frozen
  have l0 := b0.lt
  have c1 := b1.cell
  have f1 := b1.frozen
  have l1 := b1.lt
  have c2 := b2.cell
  have f2 := b2.frozen
  have l2 := b2.lt
  go_wp2
  exact bodyPost_ret (v := .agg #[.int .i64 (bpL (cx p0 p3 p6 p9) 4), .int .i64 (bpL (cx p1 p4 p7 p10) 4), .int .i64 (bpL (cx p2 p5 p8 p11) 4), .int .i64 (bpH (cx p0 p3 p6 p9) 4), .int .i64 (bpH (cx p1 p4 p7 p10) 4), .int .i64 (bpH (cx p2 p5 p8 p11) 4)]) (by simp [results, Try.results38, go_sem, c1]) rfl ⟨rfl, below_set6 hB (by omega) _ _ _ _ _ _⟩
set_option maxHeartbeats 2000000 in
theorem patchBoundsI (p0 p1 p2 p3 p4 p5 p6 p7 p8 p9 p10 p11 : Int) (w : World) :
    Calls Try.prog 39 #[.agg #[.int .i64 (p0), .int .i64 (p1), .int .i64 (p2), .int .i64 (p3), .int .i64 (p4), .int .i64 (p5), .int .i64 (p6), .int .i64 (p7), .int .i64 (p8), .int .i64 (p9), .int .i64 (p10), .int .i64 (p11)]] w fun r w' => r = .returned (.agg #[.int .i64 (bpL (cx p0 p3 p6 p9) 4), .int .i64 (bpL (cx p1 p4 p7 p10) 4), .int .i64 (bpL (cx p2 p5 p8 p11) 4), .int .i64 (bpH (cx p0 p3 p6 p9) 4), .int .i64 (bpH (cx p1 p4 p7 p10) 4), .int .i64 (bpH (cx p2 p5 p8 p11) 4)]) ∧ Below w.heap.size w w' := by
  have hB := below2 w (.cells #[.int .i64 (p0), .int .i64 (p1), .int .i64 (p2), .int .i64 (p3), .int .i64 (p4), .int .i64 (p5), .int .i64 (p6), .int .i64 (p7), .int .i64 (p8), .int .i64 (p9), .int .i64 (p10), .int .i64 (p11)] 50) (.cells #[.int .i64 (0), .int .i64 (0), .int .i64 (0), .int .i64 (0), .int .i64 (0), .int .i64 (0)] 28)
  obtain ⟨b0, b1⟩ := blk2 w #[.int .i64 (p0), .int .i64 (p1), .int .i64 (p2), .int .i64 (p3), .int .i64 (p4), .int .i64 (p5), .int .i64 (p6), .int .i64 (p7), .int .i64 (p8), .int .i64 (p9), .int .i64 (p10), .int .i64 (p11)] #[.int .i64 (0), .int .i64 (0), .int .i64 (0), .int .i64 (0), .int .i64 (0), .int .i64 (0)] 50 28
  have hT := triAt_patch p0 p1 p2 p3 p4 p5 p6 p7 p8 p9 p10 p11 b0
  go_enter Try.func39, Try.ntmps39
  go_wp2_with fail
  revert hT
  generalize ((w.alloc (.cells #[.int .i64 (p0), .int .i64 (p1), .int .i64 (p2), .int .i64 (p3), .int .i64 (p4), .int .i64 (p5), .int .i64 (p6), .int .i64 (p7), .int .i64 (p8), .int .i64 (p9), .int .i64 (p10), .int .i64 (p11)] 50)).alloc (.cells #[.int .i64 (0), .int .i64 (0), .int .i64 (0), .int .i64 (0), .int .i64 (0), .int .i64 (0)] 28)) = W0 at hB b0 b1 ⊢
  intro hT
  refine (boundI _ 4 (cx p0 p3 p6 p9) (cx p1 p4 p7 p10) (cx p2 p5 p8 p11) _ hT (by omega)).mono ?_
  rintro e w1 ⟨rfl, hb⟩
  replace hB := b_keep hb hB
  replace b0 : Blk w1 _ _ _ := Blk.keep hb b0
  replace b1 : Blk w1 _ _ _ := Blk.keep hb b1
  clear hb hT
  have c0 := b0.cell
  have f0 := b0.frozen
  have l0 := b0.lt
  have c1 := b1.cell
  have f1 := b1.frozen
  have l1 := b1.lt
  go_upto_region 2 with fail
  have d2_0 := b0.lt
  have d2_1 := b1.lt
  have g2 := hB.size
  replace b0 := b0.alloc (.cells #[.int .i64 (bpL (cx p0 p3 p6 p9) 4), .int .i64 (bpL (cx p1 p4 p7 p10) 4), .int .i64 (bpL (cx p2 p5 p8 p11) 4), .int .i64 (bpH (cx p0 p3 p6 p9) 4), .int .i64 (bpH (cx p1 p4 p7 p10) 4), .int .i64 (bpH (cx p2 p5 p8 p11) 4)] 28)
  replace b1 := b1.alloc (.cells #[.int .i64 (bpL (cx p0 p3 p6 p9) 4), .int .i64 (bpL (cx p1 p4 p7 p10) 4), .int .i64 (bpL (cx p2 p5 p8 p11) 4), .int .i64 (bpH (cx p0 p3 p6 p9) 4), .int .i64 (bpH (cx p1 p4 p7 p10) 4), .int .i64 (bpH (cx p2 p5 p8 p11) 4)] 28)
  have b2 := Blk.new w1 28 #[.int .i64 (bpL (cx p0 p3 p6 p9) 4), .int .i64 (bpL (cx p1 p4 p7 p10) 4), .int .i64 (bpL (cx p2 p5 p8 p11) 4), .int .i64 (bpH (cx p0 p3 p6 p9) 4), .int .i64 (bpH (cx p1 p4 p7 p10) 4), .int .i64 (bpH (cx p2 p5 p8 p11) 4)]
  replace hB := hB.alloc hB.size (.cells #[.int .i64 (bpL (cx p0 p3 p6 p9) 4), .int .i64 (bpL (cx p1 p4 p7 p10) 4), .int .i64 (bpL (cx p2 p5 p8 p11) 4), .int .i64 (bpH (cx p0 p3 p6 p9) 4), .int .i64 (bpH (cx p1 p4 p7 p10) 4), .int .i64 (bpH (cx p2 p5 p8 p11) 4)] 28)
  clear c0 f0 l0 c1 f1 l1
  generalize w1.heap.size = q2 at b2 g2 d2_0 d2_1 ⊢
  generalize w1.alloc (.cells #[.int .i64 (bpL (cx p0 p3 p6 p9) 4), .int .i64 (bpL (cx p1 p4 p7 p10) 4), .int .i64 (bpL (cx p2 p5 p8 p11) 4), .int .i64 (bpH (cx p0 p3 p6 p9) 4), .int .i64 (bpH (cx p1 p4 p7 p10) 4), .int .i64 (bpH (cx p2 p5 p8 p11) 4)] 28) = W2 at hB b0 b1 b2 ⊢
  have c0 := b0.cell
  have f0 := b0.frozen
  have l0 := b0.lt
  have c1 := b1.cell
  have f1 := b1.frozen
  have l1 := b1.lt
  have c2 := b2.cell
  have f2 := b2.frozen
  have l2 := b2.lt
  go_wp2
  exact bodyPost_ret (v := .agg #[.int .i64 (bpL (cx p0 p3 p6 p9) 4), .int .i64 (bpL (cx p1 p4 p7 p10) 4), .int .i64 (bpL (cx p2 p5 p8 p11) 4), .int .i64 (bpH (cx p0 p3 p6 p9) 4), .int .i64 (bpH (cx p1 p4 p7 p10) 4), .int .i64 (bpH (cx p2 p5 p8 p11) 4)]) (by simp [results, Try.results39, go_sem, c1]) rfl ⟨rfl, below_set6 hB (by omega) _ _ _ _ _ _⟩
end Go.Proofs.Ytobfccoljijnkaa
