/- Contracts of the functions on boxes: corners, atMost, BoxContains, BoxesOverlap, IsValidBox, of the program and of the reference. -/
import Derived.Test.YtobfccoljijnkaaVec3
import Derived.RegionTactic
namespace Go.Proofs.Ytobfccoljijnkaa
open Go.RowKit

/-- No component is greater. -/
def leB (a b c d e f : Int) : Bool := decide (a ≤ d) && (decide (b ≤ e) && decide (c ≤ f))
theorem leB_t {a b c d e f : Int} (h : leB a b c d e f = true) : a ≤ d ∧ b ≤ e ∧ c ≤ f := by unfold leB at h; simpa using h
theorem leB_f {a b c d e f : Int} (h : leB a b c d e f = false) : ¬ (a ≤ d ∧ b ≤ e ∧ c ≤ f) := fun ⟨h1, h2, h3⟩ => by unfold leB at h; simp [h1, h2, h3] at h
theorem leB_mk {a b c d e f : Int} (h : a ≤ d ∧ b ≤ e ∧ c ≤ f) : leB a b c d e f = true := by unfold leB; simpa using h
theorem leB_no {a b c d e f : Int} (h : ¬ (a ≤ d ∧ b ≤ e ∧ c ≤ f)) : leB a b c d e f = false := by
  cases h' : leB a b c d e f
  · rfl
  · exact absurd (leB_t h') h
/-- A box from (a, b, c) to (d, e, f) contains a point. -/
def hasB (a b c d e f x y z : Int) : Bool := leB a b c x y z && leB x y z d e f

set_option maxHeartbeats 1000000 in
theorem corners_any (a b c d e f : Int) (w : World) :
    Calls Try.prog 85 #[.agg #[.int .i64 (a), .int .i64 (b), .int .i64 (c), .int .i64 (d), .int .i64 (e), .int .i64 (f)]] w fun e1 w' => e1 = .returned (.tuple #[vec a b c, vec d e f]) ∧ Below w.heap.size w w' := by
  have hB := below3 w (.cells #[.int .i64 (a), .int .i64 (b), .int .i64 (c), .int .i64 (d), .int .i64 (e), .int .i64 (f)] 28) (.cells #[.int .i64 (a), .int .i64 (b), .int .i64 (c)] 110) (.cells #[.int .i64 (d), .int .i64 (e), .int .i64 (f)] 110)
  go_enter Try.func85, Try.ntmps85
  go_wp2
  go_region
  all_goals go_wp2
  all_goals
    exact bodyPost_ret (v := .tuple #[vec a b c, vec d e f]) (by simp [results, Try.results85, go_sem]) rfl ⟨rfl, hB.drew⟩
set_option maxHeartbeats 1000000 in
theorem atMost_any (a b c d e f : Int) (w : World) :
    Calls Try.prog 86 #[.agg #[.int .i64 (a), .int .i64 (b), .int .i64 (c)], .agg #[.int .i64 (d), .int .i64 (e), .int .i64 (f)]] w fun e1 w' => e1 = .returned (.bool (leB a b c d e f)) ∧ Below w.heap.size w w' := by
  have hB := below2 w (.cells #[.int .i64 (a), .int .i64 (b), .int .i64 (c)] 110) (.cells #[.int .i64 (d), .int .i64 (e), .int .i64 (f)] 110)
  go_enter Try.func86, Try.ntmps86
  go_wp2
  all_goals
    go_ret
    refine ⟨ret_bool ?_, hB⟩
    first
      | (symm; refine leB_mk ?_; omega)
      | (symm; refine leB_no ?_; omega)
      | (simp [leB, *]; done)
set_option maxHeartbeats 1000000 in
theorem toBox_any (a b c d e f : Int) (w : World) :
    Calls Try.prog 15 #[.agg #[.int .i64 (a), .int .i64 (b), .int .i64 (c), .int .i64 (d), .int .i64 (e), .int .i64 (f)]] w fun e1 w' => e1 = .returned (.agg #[.int .i64 (a), .int .i64 (b), .int .i64 (c), .int .i64 (d), .int .i64 (e), .int .i64 (f)]) ∧ Below w.heap.size w w' := by
  have hB := below3 w (.cells #[.int .i64 (a), .int .i64 (b), .int .i64 (c), .int .i64 (d), .int .i64 (e), .int .i64 (f)] 25) (.cells #[.int .i64 (0), .int .i64 (0), .int .i64 (0), .int .i64 (0), .int .i64 (0), .int .i64 (0)] 28) (.cells #[.int .i64 (0), .int .i64 (0), .int .i64 (0), .int .i64 (0), .int .i64 (0), .int .i64 (0)] 28)
  obtain ⟨b0, b1, b2⟩ := blk3 w #[.int .i64 (a), .int .i64 (b), .int .i64 (c), .int .i64 (d), .int .i64 (e), .int .i64 (f)] #[.int .i64 (0), .int .i64 (0), .int .i64 (0), .int .i64 (0), .int .i64 (0), .int .i64 (0)] #[.int .i64 (0), .int .i64 (0), .int .i64 (0), .int .i64 (0), .int .i64 (0), .int .i64 (0)] 25 28 28
  go_enter Try.func15, Try.ntmps15
  go_wp2_with fail
  generalize (((w.alloc (.cells #[.int .i64 (a), .int .i64 (b), .int .i64 (c), .int .i64 (d), .int .i64 (e), .int .i64 (f)] 25)).alloc (.cells #[.int .i64 (0), .int .i64 (0), .int .i64 (0), .int .i64 (0), .int .i64 (0), .int .i64 (0)] 28)).alloc (.cells #[.int .i64 (0), .int .i64 (0), .int .i64 (0), .int .i64 (0), .int .i64 (0), .int .i64 (0)] 28)) = W0 at hB b0 b1 b2 ⊢
  have c0 := b0.cell
  have f0 := b0.frozen
  have l0 := b0.lt
  have c1 := b1.cell
  have f1 := b1.frozen
  have l1 := b1.lt
  have c2 := b2.cell
  have f2 := b2.frozen
  have l2 := b2.lt
  refine (toVec_any _ _ _ _).mono ?_
  rintro e w1 ⟨rfl, hb⟩
  have hB := (by with_reducible first | exact b_keep hb hB | exact b_keep hb hB.drew)
  replace b0 : Blk w1 _ _ _ := (by with_reducible first | exact Blk.keep hb b0 | exact Blk.keep hb b0.drew)
  replace b1 : Blk w1 _ _ _ := (by with_reducible first | exact Blk.keep hb b1 | exact Blk.keep hb b1.drew)
  replace b2 : Blk w1 _ _ _ := (by with_reducible first | exact Blk.keep hb b2 | exact Blk.keep hb b2.drew)
  replace l0 := b0.lt
  replace l1 := b1.lt
  replace l2 := b2.lt
  replace c0 := b0.cell
  replace c1 := b1.cell
  replace c2 := b2.cell
  replace f0 := b0.frozen
  replace f1 := b1.frozen
  replace f2 := b2.frozen
  clear hb
  go_wp2_with fail
  replace hB := below_set3 hB (show w.heap.size ≤ w.heap.size + 1 + 1 by omega) (.int .i64 a) (.int .i64 b) (.int .i64 c)
  replace b0 := b0.far3 (show w.heap.size ≠ w.heap.size + 1 + 1 by omega) (.int .i64 a) (.int .i64 b) (.int .i64 c)
  replace b1 := b1.far3 (show w.heap.size + 1 ≠ w.heap.size + 1 + 1 by omega) (.int .i64 a) (.int .i64 b) (.int .i64 c)
  have b2' : Blk (((w1.setCell ⟨w.heap.size + 1 + 1, 0, none⟩ (.int .i64 a)).setCell ⟨w.heap.size + 1 + 1, 1, none⟩ (.int .i64 b)).setCell ⟨w.heap.size + 1 + 1, 2, none⟩ (.int .i64 c)) (w.heap.size + 1 + 1) 28 #[.int .i64 (a), .int .i64 (b), .int .i64 (c), .int .i64 (0), .int .i64 (0), .int .i64 (0)] := ((b2.set_ 0 _).set_ 1 _).set_ 2 _
  clear b2 c0 c1 c2 f0 f1 f2 l0 l1 l2
  generalize ((w1.setCell ⟨w.heap.size + 1 + 1, 0, none⟩ (.int .i64 a)).setCell ⟨w.heap.size + 1 + 1, 1, none⟩ (.int .i64 b)).setCell ⟨w.heap.size + 1 + 1, 2, none⟩ (.int .i64 c) = W1 at hB b0 b1 b2' ⊢
  have b2 := b2'
  clear b2'
  have c0 := b0.cell
  have f0 := b0.frozen
  have l0 := b0.lt
  have c1 := b1.cell
  have f1 := b1.frozen
  have l1 := b1.lt
  have c2 := b2.cell
  have f2 := b2.frozen
  have l2 := b2.lt
  refine (toVec_any _ _ _ _).mono ?_
  rintro e w1 ⟨rfl, hb⟩
  have hB := (by with_reducible first | exact b_keep hb hB | exact b_keep hb hB.drew)
  replace b0 : Blk w1 _ _ _ := (by with_reducible first | exact Blk.keep hb b0 | exact Blk.keep hb b0.drew)
  replace b1 : Blk w1 _ _ _ := (by with_reducible first | exact Blk.keep hb b1 | exact Blk.keep hb b1.drew)
  replace b2 : Blk w1 _ _ _ := (by with_reducible first | exact Blk.keep hb b2 | exact Blk.keep hb b2.drew)
  replace l0 := b0.lt
  replace l1 := b1.lt
  replace l2 := b2.lt
  replace c0 := b0.cell
  replace c1 := b1.cell
  replace c2 := b2.cell
  replace f0 := b0.frozen
  replace f1 := b1.frozen
  replace f2 := b2.frozen
  clear hb
  go_wp2
  exact bodyPost_ret (v := .agg #[.int .i64 (a), .int .i64 (b), .int .i64 (c), .int .i64 (d), .int .i64 (e), .int .i64 (f)]) (by simp [results, Try.results15, go_sem, c1]) rfl ⟨rfl, (((((((((hB.setCell (by dsimp only; omega) _).setCell (by dsimp only; omega) _).setCell (by dsimp only; omega) _).setCell (by dsimp only; omega) _).setCell (by dsimp only; omega) _).setCell (by dsimp only; omega) _).setCell (by dsimp only; omega) _).setCell (by dsimp only; omega) _).setCell (by dsimp only; omega) _)⟩
set_option maxHeartbeats 2000000 in
theorem boxContainsI (a b c d e f x y z : Int) (w : World) :
    Calls Try.prog 48 #[.agg #[.int .i64 (a), .int .i64 (b), .int .i64 (c), .int .i64 (d), .int .i64 (e), .int .i64 (f)], .agg #[.int .i64 (x), .int .i64 (y), .int .i64 (z)]] w fun e1 w' => e1 = .returned (.bool (hasB a b c d e f x y z)) ∧ Below w.heap.size w w' := by
  have hB := below2 w (.cells #[.int .i64 (a), .int .i64 (b), .int .i64 (c), .int .i64 (d), .int .i64 (e), .int .i64 (f)] 28) (.cells #[.int .i64 (x), .int .i64 (y), .int .i64 (z)] 26)
  obtain ⟨b0, b1⟩ := blk2 w #[.int .i64 (a), .int .i64 (b), .int .i64 (c), .int .i64 (d), .int .i64 (e), .int .i64 (f)] #[.int .i64 (x), .int .i64 (y), .int .i64 (z)] 28 26
  have hs : hasB a b c d e f x y z = (leB a b c x y z && leB x y z d e f) := rfl
  have HS := Lib.hid hs
  clear hs
  go_enter Try.func48, Try.ntmps48
  go_wp2_with fail
  generalize (w.alloc (.cells #[.int .i64 (a), .int .i64 (b), .int .i64 (c), .int .i64 (d), .int .i64 (e), .int .i64 (f)] 28)).alloc (.cells #[.int .i64 (x), .int .i64 (y), .int .i64 (z)] 26) = W0 at hB b0 b1 ⊢
  have c0 := b0.cell
  have f0 := b0.frozen
  have l0 := b0.lt
  have c1 := b1.cell
  have f1 := b1.frozen
  have l1 := b1.lt
  refine (corners_any _ _ _ _ _ _ _).mono ?_
  rintro e w1 ⟨rfl, hb⟩
  have hB := (by with_reducible first | exact b_keep hb hB | exact b_keep hb hB.drew)
  replace b0 : Blk w1 _ _ _ := (by with_reducible first | exact Blk.keep hb b0 | exact Blk.keep hb b0.drew)
  replace b1 : Blk w1 _ _ _ := (by with_reducible first | exact Blk.keep hb b1 | exact Blk.keep hb b1.drew)
  replace l0 := b0.lt
  replace l1 := b1.lt
  replace c0 := b0.cell
  replace c1 := b1.cell
  replace f0 := b0.frozen
  replace f1 := b1.frozen
  clear hb
  go_wp2_with fail
  replace b0 := (b0.alloc (.cells #[.int .i64 (a), .int .i64 (b), .int .i64 (c)] 110)).alloc (.cells #[.int .i64 (d), .int .i64 (e), .int .i64 (f)] 110)
  replace b1 := (b1.alloc (.cells #[.int .i64 (a), .int .i64 (b), .int .i64 (c)] 110)).alloc (.cells #[.int .i64 (d), .int .i64 (e), .int .i64 (f)] 110)
  obtain ⟨b2, b3⟩ := blk2 w1 #[.int .i64 (a), .int .i64 (b), .int .i64 (c)] #[.int .i64 (d), .int .i64 (e), .int .i64 (f)] 110 110
  replace hB := (hB.alloc hB.size (.cells #[.int .i64 (a), .int .i64 (b), .int .i64 (c)] 110)).alloc (Nat.le_trans hB.size (by simp)) (.cells #[.int .i64 (d), .int .i64 (e), .int .i64 (f)] 110)
  generalize w1.heap.size = q at b2 b3 ⊢
  generalize (w1.alloc (.cells #[.int .i64 (a), .int .i64 (b), .int .i64 (c)] 110)).alloc (.cells #[.int .i64 (d), .int .i64 (e), .int .i64 (f)] 110) = W1 at hB b0 b1 b2 b3 ⊢
  clear c0 c1 f0 f1 l0 l1
  have c0 := b0.cell
  have f0 := b0.frozen
  have l0 := b0.lt
  have c1 := b1.cell
  have f1 := b1.frozen
  have l1 := b1.lt
  have c2 := b2.cell
  have f2 := b2.frozen
  have l2 := b2.lt
  have c3 := b3.cell
  have f3 := b3.frozen
  have l3 := b3.lt
  refine (atMost_any _ _ _ _ _ _ _).mono ?_
  rintro e w1 ⟨rfl, hb⟩
  have hB := (by with_reducible first | exact b_keep hb hB | exact b_keep hb hB.drew)
  replace b0 : Blk w1 _ _ _ := (by with_reducible first | exact Blk.keep hb b0 | exact Blk.keep hb b0.drew)
  replace b1 : Blk w1 _ _ _ := (by with_reducible first | exact Blk.keep hb b1 | exact Blk.keep hb b1.drew)
  replace b2 : Blk w1 _ _ _ := (by with_reducible first | exact Blk.keep hb b2 | exact Blk.keep hb b2.drew)
  replace b3 : Blk w1 _ _ _ := (by with_reducible first | exact Blk.keep hb b3 | exact Blk.keep hb b3.drew)
  replace l0 := b0.lt
  replace l1 := b1.lt
  replace l2 := b2.lt
  replace l3 := b3.lt
  replace c0 := b0.cell
  replace c1 := b1.cell
  replace c2 := b2.cell
  replace c3 := b3.cell
  replace f0 := b0.frozen
  replace f1 := b1.frozen
  replace f2 := b2.frozen
  replace f3 := b3.frozen
  clear hb
  cases h1 : leB a b c x y z
  · go_wp2
    go_ret
    exact ⟨ret_bool (by rw [HS.out, h1]; rfl), hB⟩
  · go_wp2_with fail
    refine (atMost_any _ _ _ _ _ _ _).mono ?_
    rintro e w1 ⟨rfl, hb⟩
    have hB := (by with_reducible first | exact b_keep hb hB | exact b_keep hb hB.drew)
    replace b0 : Blk w1 _ _ _ := (by with_reducible first | exact Blk.keep hb b0 | exact Blk.keep hb b0.drew)
    replace b1 : Blk w1 _ _ _ := (by with_reducible first | exact Blk.keep hb b1 | exact Blk.keep hb b1.drew)
    replace b2 : Blk w1 _ _ _ := (by with_reducible first | exact Blk.keep hb b2 | exact Blk.keep hb b2.drew)
    replace b3 : Blk w1 _ _ _ := (by with_reducible first | exact Blk.keep hb b3 | exact Blk.keep hb b3.drew)
    replace l0 := b0.lt
    replace l1 := b1.lt
    replace l2 := b2.lt
    replace l3 := b3.lt
    replace c0 := b0.cell
    replace c1 := b1.cell
    replace c2 := b2.cell
    replace c3 := b3.cell
    replace f0 := b0.frozen
    replace f1 := b1.frozen
    replace f2 := b2.frozen
    replace f3 := b3.frozen
    clear hb
    go_wp2
    go_ret
    exact ⟨ret_bool (by rw [HS.out, h1]; rfl), hB⟩
end Go.Proofs.Ytobfccoljijnkaa
