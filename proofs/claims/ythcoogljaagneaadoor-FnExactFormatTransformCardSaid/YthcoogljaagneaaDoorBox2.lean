/- Contracts of the functions on boxes, continued: IsValidBox, BoxesOverlap. -/
import Derived.Test.YthcoogljaagneaaDoorBox
import Derived.Test.YthcoogljaagneaaDoorVecW
import Derived.Deep.LoopGhost
namespace Go.Proofs.YthcoogljaagneaaDoor
open Go.RowKit

/-- A valid box. -/
def vbB (a b c d e f : Int) : Bool := vb a b c && (vb d e f && leB a b c d e f)
/-- Two boxes overlap. -/
def ovB (a b c d e f a' b' c' d' e' f' : Int) : Bool := leB (mxZ a a') (mxZ b b') (mxZ c c') (mnZ d d') (mnZ e e') (mnZ f f')

set_option maxHeartbeats 2000000 in
theorem isValidBoxI (a b c d e f : Int) (w : World) :
    Calls Tryd.prog 46 #[.agg #[.int .i64 (a), .int .i64 (b), .int .i64 (c), .int .i64 (d), .int .i64 (e), .int .i64 (f)]] w fun e1 w' => e1 = .returned (.bool (vbB a b c d e f)) ∧ Below w.heap.size w w' := by
  have hB := below1 w (.cells #[.int .i64 (a), .int .i64 (b), .int .i64 (c), .int .i64 (d), .int .i64 (e), .int .i64 (f)] 39)
  have b0 := Blk.new w 39 #[.int .i64 (a), .int .i64 (b), .int .i64 (c), .int .i64 (d), .int .i64 (e), .int .i64 (f)]
  have HS := Lib.hid (show vbB a b c d e f = (vb a b c && (vb d e f && leB a b c d e f)) from rfl)
  go_enter Tryd.func46, Tryd.ntmps46
  go_wp2_with fail
  generalize w.alloc (.cells #[.int .i64 (a), .int .i64 (b), .int .i64 (c), .int .i64 (d), .int .i64 (e), .int .i64 (f)] 39) = W0 at hB b0 ⊢
  have c0 := b0.cell
  have f0 := b0.frozen
  have l0 := b0.lt
  refine (corners_any _ _ _ _ _ _ _).mono ?_
  rintro e w1 ⟨rfl, hb⟩
  have hB := (by with_reducible first | exact b_keep hb hB | exact b_keep hb hB.drew)
  replace b0 : Blk w1 _ _ _ := (by with_reducible first | exact Blk.keep hb b0 | exact Blk.keep hb b0.drew)
  replace l0 := b0.lt
  replace c0 := b0.cell
  replace f0 := b0.frozen
  clear hb
  go_wp2_with fail
  replace b0 := (b0.alloc (.cells #[.int .i64 (a), .int .i64 (b), .int .i64 (c)] 87)).alloc (.cells #[.int .i64 (d), .int .i64 (e), .int .i64 (f)] 87)
  obtain ⟨b1, b2⟩ := blk2 w1 #[.int .i64 (a), .int .i64 (b), .int .i64 (c)] #[.int .i64 (d), .int .i64 (e), .int .i64 (f)] 87 87
  replace hB := (hB.alloc hB.size (.cells #[.int .i64 (a), .int .i64 (b), .int .i64 (c)] 87)).alloc (Nat.le_trans hB.size (by simp)) (.cells #[.int .i64 (d), .int .i64 (e), .int .i64 (f)] 87)
  generalize w1.heap.size = q at b1 b2 ⊢
  generalize (w1.alloc (.cells #[.int .i64 (a), .int .i64 (b), .int .i64 (c)] 87)).alloc (.cells #[.int .i64 (d), .int .i64 (e), .int .i64 (f)] 87) = W1 at hB b0 b1 b2 ⊢
  clear c0 f0 l0
  have c0 := b0.cell
  have f0 := b0.frozen
  have l0 := b0.lt
  have c1 := b1.cell
  have f1 := b1.frozen
  have l1 := b1.lt
  have c2 := b2.cell
  have f2 := b2.frozen
  have l2 := b2.lt
  refine (isValidVecI _ _ _ _).mono ?_
  rintro e w1 ⟨rfl, hb⟩
  have hB := (by with_reducible first | exact b_keep hb hB | exact b_keep hb hB.drew)
  replace b0 : Blk w1 _ _ _ := (by with_reducible first | exact Blk.keep hb b0 | exact Blk.keep hb b0.drew)
  replace b1 : Blk w1 _ _ _ := (by with_reducible first | exact Blk.keep hb b1 | exact Blk.keep hb b1.drew)
  replace b2 : Blk w1 _ _ _ := (by with_reducible first | exact Blk.keep hb b2 | exact Blk.keep hb b2.drew)
  replace l0 := b0.lt
  replace l1 := b1.lt
  replace l2 := b2.lt
  replace c0 := b0.cell
  replace c1 := b1.cell
  replace c2 := b2.cell
  replace f0 := b0.frozen
  replace f1 := b1.frozen
  replace f2 := b2.frozen
  clear hb
  cases h1 : vb a b c
  · go_wp2
    go_ret
    exact ⟨ret_bool (by rw [HS.out, h1]; rfl), hB⟩
  · go_wp2_with fail
    refine (isValidVecI _ _ _ _).mono ?_
    rintro e w1 ⟨rfl, hb⟩
    have hB := (by with_reducible first | exact b_keep hb hB | exact b_keep hb hB.drew)
    replace b0 : Blk w1 _ _ _ := (by with_reducible first | exact Blk.keep hb b0 | exact Blk.keep hb b0.drew)
    replace b1 : Blk w1 _ _ _ := (by with_reducible first | exact Blk.keep hb b1 | exact Blk.keep hb b1.drew)
    replace b2 : Blk w1 _ _ _ := (by with_reducible first | exact Blk.keep hb b2 | exact Blk.keep hb b2.drew)
    replace l0 := b0.lt
    replace l1 := b1.lt
    replace l2 := b2.lt
    replace c0 := b0.cell
    replace c1 := b1.cell
    replace c2 := b2.cell
    replace f0 := b0.frozen
    replace f1 := b1.frozen
    replace f2 := b2.frozen
    clear hb
    cases h2 : vb d e f
    · go_wp2
      go_ret
      exact ⟨ret_bool (by rw [HS.out, h1, h2]; rfl), hB⟩
    · go_wp2_with fail
      refine (atMost_any _ _ _ _ _ _ _).mono ?_
      rintro e w1 ⟨rfl, hb⟩
      have hB := (by with_reducible first | exact b_keep hb hB | exact b_keep hb hB.drew)
      replace b0 : Blk w1 _ _ _ := (by with_reducible first | exact Blk.keep hb b0 | exact Blk.keep hb b0.drew)
      replace b1 : Blk w1 _ _ _ := (by with_reducible first | exact Blk.keep hb b1 | exact Blk.keep hb b1.drew)
      replace b2 : Blk w1 _ _ _ := (by with_reducible first | exact Blk.keep hb b2 | exact Blk.keep hb b2.drew)
      replace l0 := b0.lt
      replace l1 := b1.lt
      replace l2 := b2.lt
      replace c0 := b0.cell
      replace c1 := b1.cell
      replace c2 := b2.cell
      replace f0 := b0.frozen
      replace f1 := b1.frozen
      replace f2 := b2.frozen
      clear hb
      go_wp2
      go_ret
      exact ⟨ret_bool (by rw [HS.out, h1, h2]; rfl), hB⟩
set_option maxHeartbeats 2000000 in
theorem isValidBoxS (a b c d e f : Int) (w : World) :
    Calls Tryd.prog 45 #[.agg #[.int .i64 (a), .int .i64 (b), .int .i64 (c), .int .i64 (d), .int .i64 (e), .int .i64 (f)]] w fun e1 w' => e1 = .returned (.bool (vbB a b c d e f)) ∧ Below w.heap.size w w' := by
  have hB := below1 w (.cells #[.int .i64 (a), .int .i64 (b), .int .i64 (c), .int .i64 (d), .int .i64 (e), .int .i64 (f)] 39)
  have b0 := Blk.new w 39 #[.int .i64 (a), .int .i64 (b), .int .i64 (c), .int .i64 (d), .int .i64 (e), .int .i64 (f)]
  have HS := Lib.hid (show vbB a b c d e f = (vb a b c && (vb d e f && leB a b c d e f)) from rfl)
  go_enter Tryd.func45, Tryd.ntmps45
  go_wp2_with fail
  generalize w.alloc (.cells #[.int .i64 (a), .int .i64 (b), .int .i64 (c), .int .i64 (d), .int .i64 (e), .int .i64 (f)] 39) = W0 at hB b0 ⊢
  have c0 := b0.cell
  have f0 := b0.frozen
  have l0 := b0.lt
  refine (isValidVecS _ _ _ _).mono ?_
  rintro e w1 ⟨rfl, hb⟩
  have hB := (by with_reducible first | exact b_keep hb hB | exact b_keep hb hB.drew)
  replace b0 : Blk w1 _ _ _ := (by with_reducible first | exact Blk.keep hb b0 | exact Blk.keep hb b0.drew)
  replace l0 := b0.lt
  replace c0 := b0.cell
  replace f0 := b0.frozen
  clear hb
  cases h1 : vb a b c
  · go_wp2
    go_ret
    exact ⟨ret_bool (by rw [HS.out, h1]; rfl), hB⟩
  · go_wp2_with fail
    refine (isValidVecS _ _ _ _).mono ?_
    rintro e w1 ⟨rfl, hb⟩
    have hB := (by with_reducible first | exact b_keep hb hB | exact b_keep hb hB.drew)
    replace b0 : Blk w1 _ _ _ := (by with_reducible first | exact Blk.keep hb b0 | exact Blk.keep hb b0.drew)
    replace l0 := b0.lt
    replace c0 := b0.cell
    replace f0 := b0.frozen
    clear hb
    cases h2 : vb d e f
    · go_wp2
      go_ret
      exact ⟨ret_bool (by rw [HS.out, h1, h2]; rfl), hB⟩
    · go_wp2
      all_goals
        go_ret
        refine ⟨ret_bool ?_, hB⟩
        rw [HS.out, h1, h2, Bool.true_and, Bool.true_and]
        first
          | (symm; refine leB_no ?_; omega)
          | (simp [leB, *]; done)
end Go.Proofs.YthcoogljaagneaaDoor
