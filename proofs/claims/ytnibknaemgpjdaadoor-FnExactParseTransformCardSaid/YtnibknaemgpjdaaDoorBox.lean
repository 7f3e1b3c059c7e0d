/- Contracts of the functions on boxes: corners, atMost, BoxContains, BoxesOverlap, IsValidBox, of the program and of the reference. -/
import Derived.Test.YtnibknaemgpjdaaDoorVec3
import Derived.RegionTactic
namespace Go.Proofs.YtnibknaemgpjdaaDoor
open Go.RowKit

/-- No component is greater. -/
def leB (a b c d e f : Int) : Bool := decide (a ≤ d) && (decide (b ≤ e) && decide (c ≤ f))
theorem leB_t {a b c d e f : Int} (h : leB a b c d e f = true) : a ≤ d ∧ b ≤ e ∧ c ≤ f := by unfold leB at h; simpa using h
theorem leB_f {a b c d e f : Int} (h : leB a b c d e f = false) : ¬ (a ≤ d ∧ b ≤ e ∧ c ≤ f) := fun ⟨h1, h2, h3⟩ => by unfold leB at h; simp [h1, h2, h3] at h
theorem leB_mk {a b c d e f : Int} (h : a ≤ d ∧ b ≤ e ∧ c ≤ f) : leB a b c d e f = true := by unfold leB; simpa using h
theorem leB_no {a b c d e f : Int} (h : ¬ (a ≤ d ∧ b ≤ e ∧ c ≤ f)) : leB a b c d e f = false := by
  cases h' : leB a b c d e f
  · rfl
  · exact absurd (leB_t h') h
/-- A box from (a, b, c) to (d, e, f) contains a point. -/
def hasB (a b c d e f x y z : Int) : Bool := leB a b c x y z && leB x y z d e f

set_option maxHeartbeats 1000000 in
theorem corners_any (a b c d e f : Int) (w : World) :
    Calls Tryd.prog 75 #[.agg #[.int .i64 (a), .int .i64 (b), .int .i64 (c), .int .i64 (d), .int .i64 (e), .int .i64 (f)]] w fun e1 w' => e1 = .returned (.tuple #[vec a b c, vec d e f]) ∧ Below w.heap.size w w' := by
  have hB := below3 w (.cells #[.int .i64 (a), .int .i64 (b), .int .i64 (c), .int .i64 (d), .int .i64 (e), .int .i64 (f)] 66) (.cells #[.int .i64 (a), .int .i64 (b), .int .i64 (c)] 99) (.cells #[.int .i64 (d), .int .i64 (e), .int .i64 (f)] 99)
  go_enter Tryd.func75, Tryd.ntmps75
  go_wp2
  go_region
  all_goals go_wp2
  all_goals
    exact bodyPost_ret (v := .tuple #[vec a b c, vec d e f]) (by simp [results, Tryd.results75, go_sem]) rfl ⟨rfl, hB.drew⟩
set_option maxHeartbeats 1000000 in
theorem atMost_any (a b c d e f : Int) (w : World) :
    Calls Tryd.prog 76 #[.agg #[.int .i64 (a), .int .i64 (b), .int .i64 (c)], .agg #[.int .i64 (d), .int .i64 (e), .int .i64 (f)]] w fun e1 w' => e1 = .returned (.bool (leB a b c d e f)) ∧ Below w.heap.size w w' := by
  have hB := below2 w (.cells #[.int .i64 (a), .int .i64 (b), .int .i64 (c)] 99) (.cells #[.int .i64 (d), .int .i64 (e), .int .i64 (f)] 99)
  go_enter Tryd.func76, Tryd.ntmps76
  go_wp2
  all_goals
    go_ret
    refine ⟨ret_bool ?_, hB⟩
    first
      | (symm; refine leB_mk ?_; omega)
      | (symm; refine leB_no ?_; omega)
      | (simp [leB, *]; done)
set_option maxHeartbeats 2000000 in
theorem boxContainsI (a b c d e f x y z : Int) (w : World) :
    Calls Tryd.prog 38 #[.agg #[.int .i64 (a), .int .i64 (b), .int .i64 (c), .int .i64 (d), .int .i64 (e), .int .i64 (f)], .agg #[.int .i64 (x), .int .i64 (y), .int .i64 (z)]] w fun e1 w' => e1 = .returned (.bool (hasB a b c d e f x y z)) ∧ Below w.heap.size w w' := by
  have hB := below2 w (.cells #[.int .i64 (a), .int .i64 (b), .int .i64 (c), .int .i64 (d), .int .i64 (e), .int .i64 (f)] 66) (.cells #[.int .i64 (x), .int .i64 (y), .int .i64 (z)] 23)
  obtain ⟨b0, b1⟩ := blk2 w #[.int .i64 (a), .int .i64 (b), .int .i64 (c), .int .i64 (d), .int .i64 (e), .int .i64 (f)] #[.int .i64 (x), .int .i64 (y), .int .i64 (z)] 66 23
  have hs : hasB a b c d e f x y z = (leB a b c x y z && leB x y z d e f) := rfl
  have HS := Lib.hid hs
  clear hs
  go_enter Tryd.func38, Tryd.ntmps38
  go_wp2_with fail
  generalize (w.alloc (.cells #[.int .i64 (a), .int .i64 (b), .int .i64 (c), .int .i64 (d), .int .i64 (e), .int .i64 (f)] 66)).alloc (.cells #[.int .i64 (x), .int .i64 (y), .int .i64 (z)] 23) = W0 at hB b0 b1 ⊢
  have c0 := b0.cell
  have f0 := b0.frozen
  have l0 := b0.lt
  have c1 := b1.cell
  have f1 := b1.frozen
  have l1 := b1.lt
  refine (corners_any _ _ _ _ _ _ _).mono ?_
  rintro e w1 ⟨rfl, hb⟩
  have hB := (by with_reducible first | exact b_keep hb hB | exact b_keep hb hB.drew)
  replace b0 : Blk w1 _ _ _ := (by with_reducible first | exact Blk.keep hb b0 | exact Blk.keep hb b0.drew)
  replace b1 : Blk w1 _ _ _ := (by with_reducible first | exact Blk.keep hb b1 | exact Blk.keep hb b1.drew)
  replace l0 := b0.lt
  replace l1 := b1.lt
  replace c0 := b0.cell
  replace c1 := b1.cell
  replace f0 := b0.frozen
  replace f1 := b1.frozen
  clear hb
  go_wp2_with fail
  replace b0 := (b0.alloc (.cells #[.int .i64 (a), .int .i64 (b), .int .i64 (c)] 99)).alloc (.cells #[.int .i64 (d), .int .i64 (e), .int .i64 (f)] 99)
  replace b1 := (b1.alloc (.cells #[.int .i64 (a), .int .i64 (b), .int .i64 (c)] 99)).alloc (.cells #[.int .i64 (d), .int .i64 (e), .int .i64 (f)] 99)
  obtain ⟨b2, b3⟩ := blk2 w1 #[.int .i64 (a), .int .i64 (b), .int .i64 (c)] #[.int .i64 (d), .int .i64 (e), .int .i64 (f)] 99 99
  replace hB := (hB.alloc hB.size (.cells #[.int .i64 (a), .int .i64 (b), .int .i64 (c)] 99)).alloc (Nat.le_trans hB.size (by simp)) (.cells #[.int .i64 (d), .int .i64 (e), .int .i64 (f)] 99)
  generalize w1.heap.size = q at b2 b3 ⊢
  generalize (w1.alloc (.cells #[.int .i64 (a), .int .i64 (b), .int .i64 (c)] 99)).alloc (.cells #[.int .i64 (d), .int .i64 (e), .int .i64 (f)] 99) = W1 at hB b0 b1 b2 b3 ⊢
  clear c0 c1 f0 f1 l0 l1
  have c0 := b0.cell
  have f0 := b0.frozen
  have l0 := b0.lt
  have c1 := b1.cell
  have f1 := b1.frozen
  have l1 := b1.lt
  have c2 := b2.cell
  have f2 := b2.frozen
  have l2 := b2.lt
  have c3 := b3.cell
  have f3 := b3.frozen
  have l3 := b3.lt
  refine (atMost_any _ _ _ _ _ _ _).mono ?_
  rintro e w1 ⟨rfl, hb⟩
  have hB := (by with_reducible first | exact b_keep hb hB | exact b_keep hb hB.drew)
  replace b0 : Blk w1 _ _ _ := (by with_reducible first | exact Blk.keep hb b0 | exact Blk.keep hb b0.drew)
  replace b1 : Blk w1 _ _ _ := (by with_reducible first | exact Blk.keep hb b1 | exact Blk.keep hb b1.drew)
  replace b2 : Blk w1 _ _ _ := (by with_reducible first | exact Blk.keep hb b2 | exact Blk.keep hb b2.drew)
  replace b3 : Blk w1 _ _ _ := (by with_reducible first | exact Blk.keep hb b3 | exact Blk.keep hb b3.drew)
  replace l0 := b0.lt
  replace l1 := b1.lt
  replace l2 := b2.lt
  replace l3 := b3.lt
  replace c0 := b0.cell
  replace c1 := b1.cell
  replace c2 := b2.cell
  replace c3 := b3.cell
  replace f0 := b0.frozen
  replace f1 := b1.frozen
  replace f2 := b2.frozen
  replace f3 := b3.frozen
  clear hb
  cases h1 : leB a b c x y z
  · go_wp2
    go_ret
    exact ⟨ret_bool (by rw [HS.out, h1]; rfl), hB⟩
  · go_wp2_with fail
    refine (atMost_any _ _ _ _ _ _ _).mono ?_
    rintro e w1 ⟨rfl, hb⟩
    have hB := (by with_reducible first | exact b_keep hb hB | exact b_keep hb hB.drew)
    replace b0 : Blk w1 _ _ _ := (by with_reducible first | exact Blk.keep hb b0 | exact Blk.keep hb b0.drew)
    replace b1 : Blk w1 _ _ _ := (by with_reducible first | exact Blk.keep hb b1 | exact Blk.keep hb b1.drew)
    replace b2 : Blk w1 _ _ _ := (by with_reducible first | exact Blk.keep hb b2 | exact Blk.keep hb b2.drew)
    replace b3 : Blk w1 _ _ _ := (by with_reducible first | exact Blk.keep hb b3 | exact Blk.keep hb b3.drew)
    replace l0 := b0.lt
    replace l1 := b1.lt
    replace l2 := b2.lt
    replace l3 := b3.lt
    replace c0 := b0.cell
    replace c1 := b1.cell
    replace c2 := b2.cell
    replace c3 := b3.cell
    replace f0 := b0.frozen
    replace f1 := b1.frozen
    replace f2 := b2.frozen
    replace f3 := b3.frozen
    clear hb
    go_wp2
    go_ret
    exact ⟨ret_bool (by rw [HS.out, h1]; rfl), hB⟩
end Go.Proofs.YtnibknaemgpjdaaDoor
