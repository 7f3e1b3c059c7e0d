/- Contracts of the functions on boxes, continued: IsValidBox, BoxesOverlap. -/
import Derived.Test.YtobfccoljijnkaaBox
import Derived.Test.YtobfccoljijnkaaVecW
import Derived.Deep.LoopGhost
namespace Go.Proofs.Ytobfccoljijnkaa
open Go.RowKit

/-- A valid box. -/
def vbB (a b c d e f : Int) : Bool := vb a b c && (vb d e f && leB a b c d e f)
/-- Two boxes overlap. -/
def ovB (a b c d e f a' b' c' d' e' f' : Int) : Bool := leB (mxZ a a') (mxZ b b') (mxZ c c') (mnZ d d') (mnZ e e') (mnZ f f')

set_option maxHeartbeats 2000000 in
theorem boxesOverlapI (a b c d e f a' b' c' d' e' f' : Int) (w : World) :
    Calls Try.prog 49 #[.agg #[.int .i64 (a), .int .i64 (b), .int .i64 (c), .int .i64 (d), .int .i64 (e), .int .i64 (f)], .agg #[.int .i64 (a'), .int .i64 (b'), .int .i64 (c'), .int .i64 (d'), .int .i64 (e'), .int .i64 (f')]] w fun r w' => r = .returned (.bool (ovB a b c d e f a' b' c' d' e' f')) ∧ Below w.heap.size w w' := by
  have hB := below2 w (.cells #[.int .i64 (a), .int .i64 (b), .int .i64 (c), .int .i64 (d), .int .i64 (e), .int .i64 (f)] 28) (.cells #[.int .i64 (a'), .int .i64 (b'), .int .i64 (c'), .int .i64 (d'), .int .i64 (e'), .int .i64 (f')] 28)
  obtain ⟨b0, b1⟩ := blk2 w #[.int .i64 (a), .int .i64 (b), .int .i64 (c), .int .i64 (d), .int .i64 (e), .int .i64 (f)] #[.int .i64 (a'), .int .i64 (b'), .int .i64 (c'), .int .i64 (d'), .int .i64 (e'), .int .i64 (f')] 28 28
  go_enter Try.func49, Try.ntmps49
  go_wp2_with fail
  generalize ((w.alloc (.cells #[.int .i64 (a), .int .i64 (b), .int .i64 (c), .int .i64 (d), .int .i64 (e), .int .i64 (f)] 28)).alloc (.cells #[.int .i64 (a'), .int .i64 (b'), .int .i64 (c'), .int .i64 (d'), .int .i64 (e'), .int .i64 (f')] 28)) = W0 at hB b0 b1 ⊢
  have c0 := b0.cell
  have f0 := b0.frozen
  have l0 := b0.lt
  have c1 := b1.cell
  have f1 := b1.frozen
  have l1 := b1.lt
  refine (with_mxo _ _ _ _ _ _ _).mono ?_
  rintro e w1 ⟨rfl, hb⟩
  have hB := (by with_reducible first | exact b_keep hb hB | exact b_keep hb hB.drew)
  replace b0 : Blk w1 _ _ _ := (by with_reducible first | exact Blk.keep hb b0 | exact Blk.keep hb b0.drew)
  replace b1 : Blk w1 _ _ _ := (by with_reducible first | exact Blk.keep hb b1 | exact Blk.keep hb b1.drew)
  replace l0 := b0.lt
  replace l1 := b1.lt
  replace c0 := b0.cell
  replace c1 := b1.cell
  replace f0 := b0.frozen
  replace f1 := b1.frozen
  clear hb
  go_wp2_with fail
  have d2_0 := b0.lt
  have d2_1 := b1.lt
  have g2 := hB.size
  replace b0 := b0.alloc (.cells #[.int .i64 (mxZ a a'), .int .i64 (mxZ b b'), .int .i64 (mxZ c c')] 26)
  replace b1 := b1.alloc (.cells #[.int .i64 (mxZ a a'), .int .i64 (mxZ b b'), .int .i64 (mxZ c c')] 26)
  have b2 := Blk.new w1 26 #[.int .i64 (mxZ a a'), .int .i64 (mxZ b b'), .int .i64 (mxZ c c')]
  replace hB := hB.alloc hB.size (.cells #[.int .i64 (mxZ a a'), .int .i64 (mxZ b b'), .int .i64 (mxZ c c')] 26)
  clear c0 f0 l0 c1 f1 l1
  generalize w1.heap.size = q2 at b2 g2 d2_0 d2_1 ⊢
  generalize w1.alloc (.cells #[.int .i64 (mxZ a a'), .int .i64 (mxZ b b'), .int .i64 (mxZ c c')] 26) = W2 at hB b0 b1 b2 ⊢
  have c0 := b0.cell
  have f0 := b0.frozen
  have l0 := b0.lt
  have c1 := b1.cell
  have f1 := b1.frozen
  have l1 := b1.lt
  have c2 := b2.cell
  have f2 := b2.frozen
  have l2 := b2.lt
  refine (with_mno _ _ _ _ _ _ _).mono ?_
  rintro e w1 ⟨rfl, hb⟩
  have hB := (by with_reducible first | exact b_keep hb hB | exact b_keep hb hB.drew)
  replace b0 : Blk w1 _ _ _ := (by with_reducible first | exact Blk.keep hb b0 | exact Blk.keep hb b0.drew)
  replace b1 : Blk w1 _ _ _ := (by with_reducible first | exact Blk.keep hb b1 | exact Blk.keep hb b1.drew)
  replace b2 : Blk w1 _ _ _ := (by with_reducible first | exact Blk.keep hb b2 | exact Blk.keep hb b2.drew)
  replace l0 := b0.lt
  replace l1 := b1.lt
  replace l2 := b2.lt
  replace c0 := b0.cell
  replace c1 := b1.cell
  replace c2 := b2.cell
  replace f0 := b0.frozen
  replace f1 := b1.frozen
  replace f2 := b2.frozen
  clear hb
  go_wp2_with fail
  have d3_0 := b0.lt
  have d3_1 := b1.lt
  have d3_2 := b2.lt
  have g3 := hB.size
  replace b0 := b0.alloc (.cells #[.int .i64 (mnZ d d'), .int .i64 (mnZ e e'), .int .i64 (mnZ f f')] 26)
  replace b1 := b1.alloc (.cells #[.int .i64 (mnZ d d'), .int .i64 (mnZ e e'), .int .i64 (mnZ f f')] 26)
  replace b2 := b2.alloc (.cells #[.int .i64 (mnZ d d'), .int .i64 (mnZ e e'), .int .i64 (mnZ f f')] 26)
  have b3 := Blk.new w1 26 #[.int .i64 (mnZ d d'), .int .i64 (mnZ e e'), .int .i64 (mnZ f f')]
  replace hB := hB.alloc hB.size (.cells #[.int .i64 (mnZ d d'), .int .i64 (mnZ e e'), .int .i64 (mnZ f f')] 26)
  clear c0 f0 l0 c1 f1 l1 c2 f2 l2
  generalize w1.heap.size = q3 at b3 g3 d3_0 d3_1 d3_2 ⊢
  generalize w1.alloc (.cells #[.int .i64 (mnZ d d'), .int .i64 (mnZ e e'), .int .i64 (mnZ f f')] 26) = W3 at hB b0 b1 b2 b3 ⊢
  have c0 := b0.cell
  have f0 := b0.frozen
  have l0 := b0.lt
  have c1 := b1.cell
  have f1 := b1.frozen
  have l1 := b1.lt
  have c2 := b2.cell
  have f2 := b2.frozen
  have l2 := b2.lt
  have c3 := b3.cell
  have f3 := b3.frozen
  have l3 := b3.lt
  refine (atMost_any _ _ _ _ _ _ _).mono ?_
  rintro e w1 ⟨rfl, hb⟩
  have hB := (by with_reducible first | exact b_keep hb hB | exact b_keep hb hB.drew)
  replace b0 : Blk w1 _ _ _ := (by with_reducible first | exact Blk.keep hb b0 | exact Blk.keep hb b0.drew)
  replace b1 : Blk w1 _ _ _ := (by with_reducible first | exact Blk.keep hb b1 | exact Blk.keep hb b1.drew)
  replace b2 : Blk w1 _ _ _ := (by with_reducible first | exact Blk.keep hb b2 | exact Blk.keep hb b2.drew)
  replace b3 : Blk w1 _ _ _ := (by with_reducible first | exact Blk.keep hb b3 | exact Blk.keep hb b3.drew)
  replace l0 := b0.lt
  replace l1 := b1.lt
  replace l2 := b2.lt
  replace l3 := b3.lt
  replace c0 := b0.cell
  replace c1 := b1.cell
  replace c2 := b2.cell
  replace c3 := b3.cell
  replace f0 := b0.frozen
  replace f1 := b1.frozen
  replace f2 := b2.frozen
  replace f3 := b3.frozen
  clear hb
  go_wp2
  go_ret
  exact ⟨rfl, hB⟩
end Go.Proofs.Ytobfccoljijnkaa
