/- Contracts of the functions on boxes: corners, atMost, BoxContains, BoxesOverlap, IsValidBox, of the program and of the reference. -/
import Derived.Test.YthcoogljaagneaaDoorVec3
import Derived.RegionTactic
namespace Go.Proofs.YthcoogljaagneaaDoor
open Go.RowKit

/-- No component is greater. -/
def leB (a b c d e f : Int) : Bool := decide (a ≤ d) && (decide (b ≤ e) && decide (c ≤ f))
theorem leB_t {a b c d e f : Int} (h : leB a b c d e f = true) : a ≤ d ∧ b ≤ e ∧ c ≤ f := by unfold leB at h; simpa using h
theorem leB_f {a b c d e f : Int} (h : leB a b c d e f = false) : ¬ (a ≤ d ∧ b ≤ e ∧ c ≤ f) := fun ⟨h1, h2, h3⟩ => by unfold leB at h; simp [h1, h2, h3] at h
theorem leB_mk {a b c d e f : Int} (h : a ≤ d ∧ b ≤ e ∧ c ≤ f) : leB a b c d e f = true := by unfold leB; simpa using h
theorem leB_no {a b c d e f : Int} (h : ¬ (a ≤ d ∧ b ≤ e ∧ c ≤ f)) : leB a b c d e f = false := by
  cases h' : leB a b c d e f
  · rfl
  · exact absurd (leB_t h') h
/-- A box from (a, b, c) to (d, e, f) contains a point. -/
def hasB (a b c d e f x y z : Int) : Bool := leB a b c x y z && leB x y z d e f

set_option maxHeartbeats 1000000 in
theorem corners_any (a b c d e f : Int) (w : World) :
    Calls Tryd.prog 60 #[.agg #[.int .i64 (a), .int .i64 (b), .int .i64 (c), .int .i64 (d), .int .i64 (e), .int .i64 (f)]] w fun e1 w' => e1 = .returned (.tuple #[vec a b c, vec d e f]) ∧ Below w.heap.size w w' := by
  have hB := below3 w (.cells #[.int .i64 (a), .int .i64 (b), .int .i64 (c), .int .i64 (d), .int .i64 (e), .int .i64 (f)] 39) (.cells #[.int .i64 (a), .int .i64 (b), .int .i64 (c)] 87) (.cells #[.int .i64 (d), .int .i64 (e), .int .i64 (f)] 87)
  go_enter Tryd.func60, Tryd.ntmps60
  go_wp2
  go_region
  all_goals go_wp2
  all_goals
    exact bodyPost_ret (v := .tuple #[vec a b c, vec d e f]) (by simp [results, Tryd.results60, go_sem]) rfl ⟨rfl, hB.drew⟩
set_option maxHeartbeats 1000000 in
theorem atMost_any (a b c d e f : Int) (w : World) :
    Calls Tryd.prog 61 #[.agg #[.int .i64 (a), .int .i64 (b), .int .i64 (c)], .agg #[.int .i64 (d), .int .i64 (e), .int .i64 (f)]] w fun e1 w' => e1 = .returned (.bool (leB a b c d e f)) ∧ Below w.heap.size w w' := by
  have hB := below2 w (.cells #[.int .i64 (a), .int .i64 (b), .int .i64 (c)] 87) (.cells #[.int .i64 (d), .int .i64 (e), .int .i64 (f)] 87)
  go_enter Tryd.func61, Tryd.ntmps61
  go_wp2
  all_goals
    go_ret
    refine ⟨ret_bool ?_, hB⟩
    first
      | (symm; refine leB_mk ?_; omega)
      | (symm; refine leB_no ?_; omega)
      | (simp [leB, *]; done)
set_option maxHeartbeats 1000000 in
theorem toBox_any (a b c d e f : Int) (w : World) :
    Calls Tryd.prog 22 #[.agg #[.int .i64 (a), .int .i64 (b), .int .i64 (c), .int .i64 (d), .int .i64 (e), .int .i64 (f)]] w fun e1 w' => e1 = .returned (.agg #[.int .i64 (a), .int .i64 (b), .int .i64 (c), .int .i64 (d), .int .i64 (e), .int .i64 (f)]) ∧ Below w.heap.size w w' := by
  have hB := below3 w (.cells #[.int .i64 (a), .int .i64 (b), .int .i64 (c), .int .i64 (d), .int .i64 (e), .int .i64 (f)] 36) (.cells #[.int .i64 (0), .int .i64 (0), .int .i64 (0), .int .i64 (0), .int .i64 (0), .int .i64 (0)] 39) (.cells #[.int .i64 (0), .int .i64 (0), .int .i64 (0), .int .i64 (0), .int .i64 (0), .int .i64 (0)] 39)
  obtain ⟨b0, b1, b2⟩ := blk3 w #[.int .i64 (a), .int .i64 (b), .int .i64 (c), .int .i64 (d), .int .i64 (e), .int .i64 (f)] #[.int .i64 (0), .int .i64 (0), .int .i64 (0), .int .i64 (0), .int .i64 (0), .int .i64 (0)] #[.int .i64 (0), .int .i64 (0), .int .i64 (0), .int .i64 (0), .int .i64 (0), .int .i64 (0)] 36 39 39
  go_enter Tryd.func22, Tryd.ntmps22
  go_wp2_with fail
  generalize (((w.alloc (.cells #[.int .i64 (a), .int .i64 (b), .int .i64 (c), .int .i64 (d), .int .i64 (e), .int .i64 (f)] 36)).alloc (.cells #[.int .i64 (0), .int .i64 (0), .int .i64 (0), .int .i64 (0), .int .i64 (0), .int .i64 (0)] 39)).alloc (.cells #[.int .i64 (0), .int .i64 (0), .int .i64 (0), .int .i64 (0), .int .i64 (0), .int .i64 (0)] 39)) = W0 at hB b0 b1 b2 ⊢
  have c0 := b0.cell
  have f0 := b0.frozen
  have l0 := b0.lt
  have c1 := b1.cell
  have f1 := b1.frozen
  have l1 := b1.lt
  have c2 := b2.cell
  have f2 := b2.frozen
  have l2 := b2.lt
  refine (toVec_any _ _ _ _).mono ?_
  rintro e w1 ⟨rfl, hb⟩
  have hB := (by with_reducible first | exact b_keep hb hB | exact b_keep hb hB.drew)
  replace b0 : Blk w1 _ _ _ := (by with_reducible first | exact Blk.keep hb b0 | exact Blk.keep hb b0.drew)
  replace b1 : Blk w1 _ _ _ := (by with_reducible first | exact Blk.keep hb b1 | exact Blk.keep hb b1.drew)
  replace b2 : Blk w1 _ _ _ := (by with_reducible first | exact Blk.keep hb b2 | exact Blk.keep hb b2.drew)
  replace l0 := b0.lt
  replace l1 := b1.lt
  replace l2 := b2.lt
  replace c0 := b0.cell
  replace c1 := b1.cell
  replace c2 := b2.cell
  replace f0 := b0.frozen
  replace f1 := b1.frozen
  replace f2 := b2.frozen
  clear hb
  go_wp2_with fail
  replace hB := below_set3 hB (show w.heap.size ≤ w.heap.size + 1 + 1 by omega) (.int .i64 a) (.int .i64 b) (.int .i64 c)
  replace b0 := b0.far3 (show w.heap.size ≠ w.heap.size + 1 + 1 by omega) (.int .i64 a) (.int .i64 b) (.int .i64 c)
  replace b1 := b1.far3 (show w.heap.size + 1 ≠ w.heap.size + 1 + 1 by omega) (.int .i64 a) (.int .i64 b) (.int .i64 c)
  have b2' : Blk (((w1.setCell ⟨w.heap.size + 1 + 1, 0, none⟩ (.int .i64 a)).setCell ⟨w.heap.size + 1 + 1, 1, none⟩ (.int .i64 b)).setCell ⟨w.heap.size + 1 + 1, 2, none⟩ (.int .i64 c)) (w.heap.size + 1 + 1) 39 #[.int .i64 (a), .int .i64 (b), .int .i64 (c), .int .i64 (0), .int .i64 (0), .int .i64 (0)] := ((b2.set_ 0 _).set_ 1 _).set_ 2 _
  clear b2 c0 c1 c2 f0 f1 f2 l0 l1 l2
  generalize ((w1.setCell ⟨w.heap.size + 1 + 1, 0, none⟩ (.int .i64 a)).setCell ⟨w.heap.size + 1 + 1, 1, none⟩ (.int .i64 b)).setCell ⟨w.heap.size + 1 + 1, 2, none⟩ (.int .i64 c) = W1 at hB b0 b1 b2' ⊢
  have b2 := b2'
  clear b2'
  have c0 := b0.cell
  have f0 := b0.frozen
  have l0 := b0.lt
  have c1 := b1.cell
  have f1 := b1.frozen
  have l1 := b1.lt
  have c2 := b2.cell
  have f2 := b2.frozen
  have l2 := b2.lt
  refine (toVec_any _ _ _ _).mono ?_
  rintro e w1 ⟨rfl, hb⟩
  have hB := (by with_reducible first | exact b_keep hb hB | exact b_keep hb hB.drew)
  replace b0 : Blk w1 _ _ _ := (by with_reducible first | exact Blk.keep hb b0 | exact Blk.keep hb b0.drew)
  replace b1 : Blk w1 _ _ _ := (by with_reducible first | exact Blk.keep hb b1 | exact Blk.keep hb b1.drew)
  replace b2 : Blk w1 _ _ _ := (by with_reducible first | exact Blk.keep hb b2 | exact Blk.keep hb b2.drew)
  replace l0 := b0.lt
  replace l1 := b1.lt
  replace l2 := b2.lt
  replace c0 := b0.cell
  replace c1 := b1.cell
  replace c2 := b2.cell
  replace f0 := b0.frozen
  replace f1 := b1.frozen
  replace f2 := b2.frozen
  clear hb
  go_wp2
  exact bodyPost_ret (v := .agg #[.int .i64 (a), .int .i64 (b), .int .i64 (c), .int .i64 (d), .int .i64 (e), .int .i64 (f)]) (by simp [results, Tryd.results22, go_sem, c1]) rfl ⟨rfl, (((((((((hB.setCell (by dsimp only; omega) _).setCell (by dsimp only; omega) _).setCell (by dsimp only; omega) _).setCell (by dsimp only; omega) _).setCell (by dsimp only; omega) _).setCell (by dsimp only; omega) _).setCell (by dsimp only; omega) _).setCell (by dsimp only; omega) _).setCell (by dsimp only; omega) _)⟩
end Go.Proofs.YthcoogljaagneaaDoor
