/- Contracts of the functions on boxes, continued: IsValidBox, BoxesOverlap. -/
import Derived.Test.YtcmkmioojmeafaaBox
import Derived.Test.YtcmkmioojmeafaaVecW
import Derived.Deep.LoopGhost
namespace Go.Proofs.Ytcmkmioojmeafaa
open Go.RowKit

/-- A valid box. -/
def vbB (a b c d e f : Int) : Bool := vb a b c && (vb d e f && leB a b c d e f)
/-- Two boxes overlap. -/
def ovB (a b c d e f a' b' c' d' e' f' : Int) : Bool := leB (mxZ a a') (mxZ b b') (mxZ c c') (mnZ d d') (mnZ e e') (mnZ f f')

set_option maxHeartbeats 2000000 in
theorem isValidBoxI (a b c d e f : Int) (w : World) :
    Calls Try.prog 38 #[.agg #[.int .i64 (a), .int .i64 (b), .int .i64 (c), .int .i64 (d), .int .i64 (e), .int .i64 (f)]] w fun e1 w' => e1 = .returned (.bool (vbB a b c d e f)) ∧ Below w.heap.size w w' := by
  have hB := below1 w (.cells #[.int .i64 (a), .int .i64 (b), .int .i64 (c), .int .i64 (d), .int .i64 (e), .int .i64 (f)] 41)
  have b0 := Blk.new w 41 #[.int .i64 (a), .int .i64 (b), .int .i64 (c), .int .i64 (d), .int .i64 (e), .int .i64 (f)]
  have HS := Lib.hid (show vbB a b c d e f = (vb a b c && (vb d e f && leB a b c d e f)) from rfl)
  go_enter Try.func38, Try.ntmps38
  go_wp2_with fail
  generalize w.alloc (.cells #[.int .i64 (a), .int .i64 (b), .int .i64 (c), .int .i64 (d), .int .i64 (e), .int .i64 (f)] 41) = W0 at hB b0 ⊢
  have c0 := b0.cell
  have f0 := b0.frozen
  have l0 := b0.lt
  refine (corners_any _ _ _ _ _ _ _).mono ?_
  rintro e w1 ⟨rfl, hb⟩
  have hB := (by with_reducible first | exact b_keep hb hB | exact b_keep hb hB.drew)
  replace b0 : Blk w1 _ _ _ := (by with_reducible first | exact Blk.keep hb b0 | exact Blk.keep hb b0.drew)
  replace l0 := b0.lt
  replace c0 := b0.cell
  replace f0 := b0.frozen
  clear hb
  go_wp2_with fail
  replace b0 := (b0.alloc (.cells #[.int .i64 (a), .int .i64 (b), .int .i64 (c)] 61)).alloc (.cells #[.int .i64 (d), .int .i64 (e), .int .i64 (f)] 61)
  obtain ⟨b1, b2⟩ := blk2 w1 #[.int .i64 (a), .int .i64 (b), .int .i64 (c)] #[.int .i64 (d), .int .i64 (e), .int .i64 (f)] 61 61
  replace hB := (hB.alloc hB.size (.cells #[.int .i64 (a), .int .i64 (b), .int .i64 (c)] 61)).alloc (Nat.le_trans hB.size (by simp)) (.cells #[.int .i64 (d), .int .i64 (e), .int .i64 (f)] 61)
  generalize w1.heap.size = q at b1 b2 ⊢
  generalize (w1.alloc (.cells #[.int .i64 (a), .int .i64 (b), .int .i64 (c)] 61)).alloc (.cells #[.int .i64 (d), .int .i64 (e), .int .i64 (f)] 61) = W1 at hB b0 b1 b2 ⊢
  clear c0 f0 l0
  have c0 := b0.cell
  have f0 := b0.frozen
  have l0 := b0.lt
  have c1 := b1.cell
  have f1 := b1.frozen
  have l1 := b1.lt
  have c2 := b2.cell
  have f2 := b2.frozen
  have l2 := b2.lt
  refine (isValidVecI _ _ _ _).mono ?_
  rintro e w1 ⟨rfl, hb⟩
  have hB := (by with_reducible first | exact b_keep hb hB | exact b_keep hb hB.drew)
  replace b0 : Blk w1 _ _ _ := (by with_reducible first | exact Blk.keep hb b0 | exact Blk.keep hb b0.drew)
  replace b1 : Blk w1 _ _ _ := (by with_reducible first | exact Blk.keep hb b1 | exact Blk.keep hb b1.drew)
  replace b2 : Blk w1 _ _ _ := (by with_reducible first | exact Blk.keep hb b2 | exact Blk.keep hb b2.drew)
  replace l0 := b0.lt
  replace l1 := b1.lt
  replace l2 := b2.lt
  replace c0 := b0.cell
  replace c1 := b1.cell
  replace c2 := b2.cell
  replace f0 := b0.frozen
  replace f1 := b1.frozen
  replace f2 := b2.frozen
  clear hb
  cases h1 : vb a b c
  · go_wp2
    go_ret
    exact ⟨ret_bool (by rw [HS.out, h1]; rfl), hB⟩
  · go_wp2_with fail
    refine (isValidVecI _ _ _ _).mono ?_
    rintro e w1 ⟨rfl, hb⟩
    have hB := (by with_reducible first | exact b_keep hb hB | exact b_keep hb hB.drew)
    replace b0 : Blk w1 _ _ _ := (by with_reducible first | exact Blk.keep hb b0 | exact Blk.keep hb b0.drew)
    replace b1 : Blk w1 _ _ _ := (by with_reducible first | exact Blk.keep hb b1 | exact Blk.keep hb b1.drew)
    replace b2 : Blk w1 _ _ _ := (by with_reducible first | exact Blk.keep hb b2 | exact Blk.keep hb b2.drew)
    replace l0 := b0.lt
    replace l1 := b1.lt
    replace l2 := b2.lt
    replace c0 := b0.cell
    replace c1 := b1.cell
    replace c2 := b2.cell
    replace f0 := b0.frozen
    replace f1 := b1.frozen
    replace f2 := b2.frozen
    clear hb
    cases h2 : vb d e f
    · go_wp2
      go_ret
      exact ⟨ret_bool (by rw [HS.out, h1, h2]; rfl), hB⟩
    · go_wp2_with fail
      refine (atMost_any _ _ _ _ _ _ _).mono ?_
      rintro e w1 ⟨rfl, hb⟩
      have hB := (by with_reducible first | exact b_keep hb hB | exact b_keep hb hB.drew)
      replace b0 : Blk w1 _ _ _ := (by with_reducible first | exact Blk.keep hb b0 | exact Blk.keep hb b0.drew)
      replace b1 : Blk w1 _ _ _ := (by with_reducible first | exact Blk.keep hb b1 | exact Blk.keep hb b1.drew)
      replace b2 : Blk w1 _ _ _ := (by with_reducible first | exact Blk.keep hb b2 | exact Blk.keep hb b2.drew)
      replace l0 := b0.lt
      replace l1 := b1.lt
      replace l2 := b2.lt
      replace c0 := b0.cell
      replace c1 := b1.cell
      replace c2 := b2.cell
      replace f0 := b0.frozen
      replace f1 := b1.frozen
      replace f2 := b2.frozen
      clear hb
      go_wp2
      go_ret
      exact ⟨ret_bool (by rw [HS.out, h1, h2]; rfl), hB⟩
set_option maxHeartbeats 2000000 in
theorem isValidBoxS (a b c d e f : Int) (w : World) :
    Calls Try.prog 37 #[.agg #[.int .i64 (a), .int .i64 (b), .int .i64 (c), .int .i64 (d), .int .i64 (e), .int .i64 (f)]] w fun e1 w' => e1 = .returned (.bool (vbB a b c d e f)) ∧ Below w.heap.size w w' := by
  have hB := below1 w (.cells #[.int .i64 (a), .int .i64 (b), .int .i64 (c), .int .i64 (d), .int .i64 (e), .int .i64 (f)] 41)
  have b0 := Blk.new w 41 #[.int .i64 (a), .int .i64 (b), .int .i64 (c), .int .i64 (d), .int .i64 (e), .int .i64 (f)]
  have HS := Lib.hid (show vbB a b c d e f = (vb a b c && (vb d e f && leB a b c d e f)) from rfl)
  go_enter Try.func37, Try.ntmps37
  go_wp2_with fail
  generalize w.alloc (.cells #[.int .i64 (a), .int .i64 (b), .int .i64 (c), .int .i64 (d), .int .i64 (e), .int .i64 (f)] 41) = W0 at hB b0 ⊢
  have c0 := b0.cell
  have f0 := b0.frozen
  have l0 := b0.lt
  refine (isValidVecS _ _ _ _).mono ?_
  rintro e w1 ⟨rfl, hb⟩
  have hB := (by with_reducible first | exact b_keep hb hB | exact b_keep hb hB.drew)
  replace b0 : Blk w1 _ _ _ := (by with_reducible first | exact Blk.keep hb b0 | exact Blk.keep hb b0.drew)
  replace l0 := b0.lt
  replace c0 := b0.cell
  replace f0 := b0.frozen
  clear hb
  cases h1 : vb a b c
  · go_wp2
    go_ret
    exact ⟨ret_bool (by rw [HS.out, h1]; rfl), hB⟩
  · go_wp2_with fail
    refine (isValidVecS _ _ _ _).mono ?_
    rintro e w1 ⟨rfl, hb⟩
    have hB := (by with_reducible first | exact b_keep hb hB | exact b_keep hb hB.drew)
    replace b0 : Blk w1 _ _ _ := (by with_reducible first | exact Blk.keep hb b0 | exact Blk.keep hb b0.drew)
    replace l0 := b0.lt
    replace c0 := b0.cell
    replace f0 := b0.frozen
    clear hb
    cases h2 : vb d e f
    · go_wp2
      go_ret
      exact ⟨ret_bool (by rw [HS.out, h1, h2]; rfl), hB⟩
    · go_wp2
      all_goals
        go_ret
        refine ⟨ret_bool ?_, hB⟩
        rw [HS.out, h1, h2, Bool.true_and, Bool.true_and]
        first
          | (symm; refine leB_no ?_; omega)
          | (simp [leB, *]; done)
set_option maxHeartbeats 2000000 in
theorem boxesOverlapI (a b c d e f a' b' c' d' e' f' : Int) (w : World) :
    Calls Try.prog 31 #[.agg #[.int .i64 (a), .int .i64 (b), .int .i64 (c), .int .i64 (d), .int .i64 (e), .int .i64 (f)], .agg #[.int .i64 (a'), .int .i64 (b'), .int .i64 (c'), .int .i64 (d'), .int .i64 (e'), .int .i64 (f')]] w fun r w' => r = .returned (.bool (ovB a b c d e f a' b' c' d' e' f')) ∧ Below w.heap.size w w' := by
  have hB := below2 w (.cells #[.int .i64 (a), .int .i64 (b), .int .i64 (c), .int .i64 (d), .int .i64 (e), .int .i64 (f)] 41) (.cells #[.int .i64 (a'), .int .i64 (b'), .int .i64 (c'), .int .i64 (d'), .int .i64 (e'), .int .i64 (f')] 41)
  obtain ⟨b0, b1⟩ := blk2 w #[.int .i64 (a), .int .i64 (b), .int .i64 (c), .int .i64 (d), .int .i64 (e), .int .i64 (f)] #[.int .i64 (a'), .int .i64 (b'), .int .i64 (c'), .int .i64 (d'), .int .i64 (e'), .int .i64 (f')] 41 41
  go_enter Try.func31, Try.ntmps31
  go_wp2_with fail
  generalize ((w.alloc (.cells #[.int .i64 (a), .int .i64 (b), .int .i64 (c), .int .i64 (d), .int .i64 (e), .int .i64 (f)] 41)).alloc (.cells #[.int .i64 (a'), .int .i64 (b'), .int .i64 (c'), .int .i64 (d'), .int .i64 (e'), .int .i64 (f')] 41)) = W0 at hB b0 b1 ⊢
  have c0 := b0.cell
  have f0 := b0.frozen
  have l0 := b0.lt
  have c1 := b1.cell
  have f1 := b1.frozen
  have l1 := b1.lt
  refine (with_mxo _ _ _ _ _ _ _).mono ?_
  rintro e w1 ⟨rfl, hb⟩
  have hB := (by with_reducible first | exact b_keep hb hB | exact b_keep hb hB.drew)
  replace b0 : Blk w1 _ _ _ := (by with_reducible first | exact Blk.keep hb b0 | exact Blk.keep hb b0.drew)
  replace b1 : Blk w1 _ _ _ := (by with_reducible first | exact Blk.keep hb b1 | exact Blk.keep hb b1.drew)
  replace l0 := b0.lt
  replace l1 := b1.lt
  replace c0 := b0.cell
  replace c1 := b1.cell
  replace f0 := b0.frozen
  replace f1 := b1.frozen
  clear hb
  go_wp2_with fail
  have d2_0 := b0.lt
  have d2_1 := b1.lt
  have g2 := hB.size
  replace b0 := b0.alloc (.cells #[.int .i64 (mxZ a a'), .int .i64 (mxZ b b'), .int .i64 (mxZ c c')] 39)
  replace b1 := b1.alloc (.cells #[.int .i64 (mxZ a a'), .int .i64 (mxZ b b'), .int .i64 (mxZ c c')] 39)
  have b2 := Blk.new w1 39 #[.int .i64 (mxZ a a'), .int .i64 (mxZ b b'), .int .i64 (mxZ c c')]
  replace hB := hB.alloc hB.size (.cells #[.int .i64 (mxZ a a'), .int .i64 (mxZ b b'), .int .i64 (mxZ c c')] 39)
  clear c0 f0 l0 c1 f1 l1
  generalize w1.heap.size = q2 at b2 g2 d2_0 d2_1 ⊢
  generalize w1.alloc (.cells #[.int .i64 (mxZ a a'), .int .i64 (mxZ b b'), .int .i64 (mxZ c c')] 39) = W2 at hB b0 b1 b2 ⊢
  have c0 := b0.cell
  have f0 := b0.frozen
  have l0 := b0.lt
  have c1 := b1.cell
  have f1 := b1.frozen
  have l1 := b1.lt
  have c2 := b2.cell
  have f2 := b2.frozen
  have l2 := b2.lt
  refine (with_mno _ _ _ _ _ _ _).mono ?_
  rintro e w1 ⟨rfl, hb⟩
  have hB := (by with_reducible first | exact b_keep hb hB | exact b_keep hb hB.drew)
  replace b0 : Blk w1 _ _ _ := (by with_reducible first | exact Blk.keep hb b0 | exact Blk.keep hb b0.drew)
  replace b1 : Blk w1 _ _ _ := (by with_reducible first | exact Blk.keep hb b1 | exact Blk.keep hb b1.drew)
  replace b2 : Blk w1 _ _ _ := (by with_reducible first | exact Blk.keep hb b2 | exact Blk.keep hb b2.drew)
  replace l0 := b0.lt
  replace l1 := b1.lt
  replace l2 := b2.lt
  replace c0 := b0.cell
  replace c1 := b1.cell
  replace c2 := b2.cell
  replace f0 := b0.frozen
  replace f1 := b1.frozen
  replace f2 := b2.frozen
  clear hb
  go_wp2_with fail
  have d3_0 := b0.lt
  have d3_1 := b1.lt
  have d3_2 := b2.lt
  have g3 := hB.size
  replace b0 := b0.alloc (.cells #[.int .i64 (mnZ d d'), .int .i64 (mnZ e e'), .int .i64 (mnZ f f')] 39)
  replace b1 := b1.alloc (.cells #[.int .i64 (mnZ d d'), .int .i64 (mnZ e e'), .int .i64 (mnZ f f')] 39)
  replace b2 := b2.alloc (.cells #[.int .i64 (mnZ d d'), .int .i64 (mnZ e e'), .int .i64 (mnZ f f')] 39)
  have b3 := Blk.new w1 39 #[.int .i64 (mnZ d d'), .int .i64 (mnZ e e'), .int .i64 (mnZ f f')]
  replace hB := hB.alloc hB.size (.cells #[.int .i64 (mnZ d d'), .int .i64 (mnZ e e'), .int .i64 (mnZ f f')] 39)
  clear c0 f0 l0 c1 f1 l1 c2 f2 l2
  generalize w1.heap.size = q3 at b3 g3 d3_0 d3_1 d3_2 ⊢
  generalize w1.alloc (.cells #[.int .i64 (mnZ d d'), .int .i64 (mnZ e e'), .int .i64 (mnZ f f')] 39) = W3 at hB b0 b1 b2 b3 ⊢
  have c0 := b0.cell
  have f0 := b0.frozen
  have l0 := b0.lt
  have c1 := b1.cell
  have f1 := b1.frozen
  have l1 := b1.lt
  have c2 := b2.cell
  have f2 := b2.frozen
  have l2 := b2.lt
  have c3 := b3.cell
  have f3 := b3.frozen
  have l3 := b3.lt
  refine (atMost_any _ _ _ _ _ _ _).mono ?_
  rintro e w1 ⟨rfl, hb⟩
  have hB := (by with_reducible first | exact b_keep hb hB | exact b_keep hb hB.drew)
  replace b0 : Blk w1 _ _ _ := (by with_reducible first | exact Blk.keep hb b0 | exact Blk.keep hb b0.drew)
  replace b1 : Blk w1 _ _ _ := (by with_reducible first | exact Blk.keep hb b1 | exact Blk.keep hb b1.drew)
  replace b2 : Blk w1 _ _ _ := (by with_reducible first | exact Blk.keep hb b2 | exact Blk.keep hb b2.drew)
  replace b3 : Blk w1 _ _ _ := (by with_reducible first | exact Blk.keep hb b3 | exact Blk.keep hb b3.drew)
  replace l0 := b0.lt
  replace l1 := b1.lt
  replace l2 := b2.lt
  replace l3 := b3.lt
  replace c0 := b0.cell
  replace c1 := b1.cell
  replace c2 := b2.cell
  replace c3 := b3.cell
  replace f0 := b0.frozen
  replace f1 := b1.frozen
  replace f2 := b2.frozen
  replace f3 := b3.frozen
  clear hb
  go_wp2
  go_ret
  exact ⟨rfl, hB⟩
theorem ovB_no {a b c d e f a' b' c' d' e' f' : Int} (h : ¬ (((a ≤ d ∧ b ≤ e ∧ c ≤ f) ∧ (a' ≤ d' ∧ b' ≤ e' ∧ c' ≤ f')) ∧ (a ≤ d' ∧ a' ≤ d ∧ b ≤ e' ∧ b' ≤ e ∧ c ≤ f' ∧ c' ≤ f))) : ovB a b c d e f a' b' c' d' e' f' = false := by
  unfold ovB mxZ mnZ
  refine leB_no ?_
  omega
theorem ovB_yes {a b c d e f a' b' c' d' e' f' : Int} (h : ((a ≤ d ∧ b ≤ e ∧ c ≤ f) ∧ (a' ≤ d' ∧ b' ≤ e' ∧ c' ≤ f')) ∧ (a ≤ d' ∧ a' ≤ d ∧ b ≤ e' ∧ b' ≤ e ∧ c ≤ f' ∧ c' ≤ f)) : ovB a b c d e f a' b' c' d' e' f' = true := by
  unfold ovB mxZ mnZ
  refine leB_mk ?_
  omega
set_option maxHeartbeats 4000000 in
theorem boxesOverlapS (a b c d e f a' b' c' d' e' f' : Int) (w : World) :
    Calls Try.prog 30 #[.agg #[.int .i64 (a), .int .i64 (b), .int .i64 (c), .int .i64 (d), .int .i64 (e), .int .i64 (f)], .agg #[.int .i64 (a'), .int .i64 (b'), .int .i64 (c'), .int .i64 (d'), .int .i64 (e'), .int .i64 (f')]] w fun r w' => r = .returned (.bool (ovB a b c d e f a' b' c' d' e' f')) ∧ Below w.heap.size w w' := by
  have hB0 := below3 w (.cells #[.int .i64 (a), .int .i64 (b), .int .i64 (c), .int .i64 (d), .int .i64 (e), .int .i64 (f)] 41) (.cells #[.int .i64 (a'), .int .i64 (b'), .int .i64 (c'), .int .i64 (d'), .int .i64 (e'), .int .i64 (f')] 41) (.cells #[.int .i64 (a), .int .i64 (b), .int .i64 (c), .int .i64 (d), .int .i64 (e), .int .i64 (f), .int .i64 (a'), .int .i64 (b'), .int .i64 (c'), .int .i64 (d'), .int .i64 (e'), .int .i64 (f')] 41)
  obtain ⟨b00, b10, b20⟩ := blk3 w #[.int .i64 (a), .int .i64 (b), .int .i64 (c), .int .i64 (d), .int .i64 (e), .int .i64 (f)] #[.int .i64 (a'), .int .i64 (b'), .int .i64 (c'), .int .i64 (d'), .int .i64 (e'), .int .i64 (f')] #[.int .i64 (a), .int .i64 (b), .int .i64 (c), .int .i64 (d), .int .i64 (e), .int .i64 (f), .int .i64 (a'), .int .i64 (b'), .int .i64 (c'), .int .i64 (d'), .int .i64 (e'), .int .i64 (f')] 41 41 41
  go_enter Try.func30, Try.ntmps30
  go_wp2
  generalize (((w.alloc (.cells #[.int .i64 (a), .int .i64 (b), .int .i64 (c), .int .i64 (d), .int .i64 (e), .int .i64 (f)] 41)).alloc (.cells #[.int .i64 (a'), .int .i64 (b'), .int .i64 (c'), .int .i64 (d'), .int .i64 (e'), .int .i64 (f')] 41)).alloc (.cells #[.int .i64 (a), .int .i64 (b), .int .i64 (c), .int .i64 (d), .int .i64 (e), .int .i64 (f), .int .i64 (a'), .int .i64 (b'), .int .i64 (c'), .int .i64 (d'), .int .i64 (e'), .int .i64 (f')] 41)) = W0 at hB0 b00 b10 b20 ⊢
  go_loopw [11] (fun i wr => ∃ k : Nat, k ≤ 2 ∧ i = .int .i64 k ∧ (1 ≤ k → a ≤ d ∧ b ≤ e ∧ c ≤ f) ∧ (2 ≤ k → a' ≤ d' ∧ b' ≤ e' ∧ c' ≤ f') ∧ Blk wr w.heap.size 41 #[.int .i64 (a), .int .i64 (b), .int .i64 (c), .int .i64 (d), .int .i64 (e), .int .i64 (f)] ∧ Blk wr (w.heap.size + 1) 41 #[.int .i64 (a'), .int .i64 (b'), .int .i64 (c'), .int .i64 (d'), .int .i64 (e'), .int .i64 (f')] ∧ Blk wr (w.heap.size + 1 + 1) 41 #[.int .i64 (a), .int .i64 (b), .int .i64 (c), .int .i64 (d), .int .i64 (e), .int .i64 (f), .int .i64 (a'), .int .i64 (b'), .int .i64 (c'), .int .i64 (d'), .int .i64 (e'), .int .i64 (f')] ∧ Below w.heap.size w wr) (fun i _ => 2 - (intOf i).toNat)
  case atStart => exact ⟨0, by omega, rfl, by omega, by omega, b00, b10, b20, hB0⟩
  case round =>
    obtain ⟨k, hk, rfl, v0, v1, b0, b1, b2, hB⟩ := hrel
    clear b00 b10 b20 hB0
    have c0 := b0.cell
    have f0 := b0.frozen
    have l0 := b0.lt
    have c1 := b1.cell
    have f1 := b1.frozen
    have l1 := b1.lt
    have c2 := b2.cell
    have f2 := b2.frozen
    have l2 := b2.lt
    rcases (by omega : k = 0 ∨ k = 1 ∨ k = 2) with rfl | rfl | rfl
    · clear v0 v1
      rcases (by omega : (a ≤ d ∧ b ≤ e ∧ c ≤ f) ∨ d < a ∨ (a ≤ d ∧ e < b) ∨ (a ≤ d ∧ b ≤ e ∧ f < c)) with ⟨h1, h2, h3⟩ | h1 | ⟨h1, h2⟩ | ⟨h1, h2, h3⟩
      · go_wp2
        go_roundw
        case rel => exact ⟨1, by omega, by go_num, fun _ => ⟨h1, h2, h3⟩, by omega, b0.alloc _, b1.alloc _, b2.alloc _, hB.alloc hB.size _⟩
        case measure => simp [intOf]
      all_goals
        go_wp2
        go_ret
        refine ⟨ret_bool ?_, hB.alloc hB.size _⟩
        symm
        refine ovB_no ?_
        omega
    · obtain ⟨g1, g2, g3⟩ := v0 (by omega)
      clear v0 v1
      rcases (by omega : (a' ≤ d' ∧ b' ≤ e' ∧ c' ≤ f') ∨ d' < a' ∨ (a' ≤ d' ∧ e' < b') ∨ (a' ≤ d' ∧ b' ≤ e' ∧ f' < c')) with ⟨h1, h2, h3⟩ | h1 | ⟨h1, h2⟩ | ⟨h1, h2, h3⟩
      · go_wp2
        go_roundw
        case rel => exact ⟨2, by omega, by go_num, fun _ => ⟨g1, g2, g3⟩, fun _ => ⟨h1, h2, h3⟩, b0.alloc _, b1.alloc _, b2.alloc _, hB.alloc hB.size _⟩
        case measure => simp [intOf]
      all_goals
        go_wp2
        go_ret
        refine ⟨ret_bool ?_, hB.alloc hB.size _⟩
        symm
        refine ovB_no ?_
        omega
    · obtain ⟨g1, g2, g3⟩ := v0 (by omega)
      obtain ⟨h1, h2, h3⟩ := v1 (by omega)
      clear v0 v1
      by_cases hx : a ≤ d' ∧ a' ≤ d ∧ b ≤ e' ∧ b' ≤ e ∧ c ≤ f'
      · obtain ⟨k1, k2, k3, k4, k5⟩ := hx
        by_cases k6 : c' ≤ f
        · have HY := Lib.hid (ovB_yes ⟨⟨⟨g1, g2, g3⟩, ⟨h1, h2, h3⟩⟩, ⟨k1, k2, k3, k4, k5, k6⟩⟩)
          go_wp2
          go_ret
          exact ⟨ret_bool HY.out.symm, hB⟩
        · have HY := Lib.hid (ovB_no (a := a) (b := b) (c := c) (d := d) (e := e) (f := f) (a' := a') (b' := b') (c' := c') (d' := d') (e' := e') (f' := f') (by omega))
          go_wp2
          go_ret
          exact ⟨ret_bool HY.out.symm, hB⟩
      · have HY := Lib.hid (ovB_no (a := a) (b := b) (c := c) (d := d) (e := e) (f := f) (a' := a') (b' := b') (c' := c') (d' := d') (e' := e') (f' := f') (by omega))
        rcases (by omega : d' < a ∨ (a ≤ d' ∧ d < a') ∨ (a ≤ d' ∧ a' ≤ d ∧ e' < b) ∨ (a ≤ d' ∧ a' ≤ d ∧ b ≤ e' ∧ e < b') ∨ (a ≤ d' ∧ a' ≤ d ∧ b ≤ e' ∧ b' ≤ e ∧ f' < c)) with k1 | ⟨k1, k2⟩ | ⟨k1, k2, k3⟩ | ⟨k1, k2, k3, k4⟩ | ⟨k1, k2, k3, k4, k5⟩
        all_goals
          clear hx
          go_wp2
          go_ret
          exact ⟨ret_bool HY.out.symm, hB⟩
end Go.Proofs.Ytcmkmioojmeafaa
