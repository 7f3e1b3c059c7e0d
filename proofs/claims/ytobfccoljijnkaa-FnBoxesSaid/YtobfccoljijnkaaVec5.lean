/- Contracts of the functions on vectors, continued: MinVec, MaxVec, SubVec. -/
import Derived.Test.YtobfccoljijnkaaVecW
import Derived.Test.YtobfccoljijnkaaVec4
namespace Go.Proofs.Ytobfccoljijnkaa
open Go.RowKit

set_option maxHeartbeats 2000000 in
theorem minI (x y z x1 y1 z1 : Int) (w : World) :
    Calls Try.prog 59 #[.agg #[.int .i64 (x), .int .i64 (y), .int .i64 (z)], .agg #[.int .i64 (x1), .int .i64 (y1), .int .i64 (z1)]] w fun e w' => e = .returned (vec (mnZ (cl x) (cl x1)) (mnZ (cl y) (cl y1)) (mnZ (cl z) (cl z1))) ∧ Below w.heap.size w w' := by
  have hB := below3 w (.cells #[.int .i64 (x), .int .i64 (y), .int .i64 (z)] 26) (.cells #[.int .i64 (x1), .int .i64 (y1), .int .i64 (z1)] 26) (.cells #[.int .i64 (0), .int .i64 (0), .int .i64 (0)] 26)
  obtain ⟨b0, b1, b2⟩ := blk3 w #[.int .i64 (x), .int .i64 (y), .int .i64 (z)] #[.int .i64 (x1), .int .i64 (y1), .int .i64 (z1)] #[.int .i64 (0), .int .i64 (0), .int .i64 (0)] 26 26 26
  go_enter Try.func59, Try.ntmps59
  go_wp2
  generalize (((w.alloc (.cells #[.int .i64 (x), .int .i64 (y), .int .i64 (z)] 26)).alloc (.cells #[.int .i64 (x1), .int .i64 (y1), .int .i64 (z1)] 26)).alloc (.cells #[.int .i64 (0), .int .i64 (0), .int .i64 (0)] 26)) = W0 at hB b0 b1 b2 ⊢
  have c0 := b0.cell
  have f0 := b0.frozen
  have l0 := b0.lt
  have c1 := b1.cell
  have f1 := b1.frozen
  have l1 := b1.lt
  have c2 := b2.cell
  have f2 := b2.frozen
  have l2 := b2.lt
  go_region_held3 (fun w' => (∀ i, w'.cell? ⟨w.heap.size, i, none⟩ = (#[.int .i64 (x), .int .i64 (y), .int .i64 (z)] : Array Value)[i]?) ∧ (∀ i, w'.cell? ⟨w.heap.size + 1, i, none⟩ = (#[.int .i64 (x1), .int .i64 (y1), .int .i64 (z1)] : Array Value)[i]?)) (first | with_reducible exact ⟨b0.cell, b1.cell⟩ | with_reducible exact ⟨b0.drew.cell, b1.drew.cell⟩ | with_reducible exact ⟨(b0.alloc _).cell, (b1.alloc _).cell⟩ | with_reducible exact ⟨(b0.alloc _).drew.cell, (b1.alloc _).drew.cell⟩ | exact ⟨(b0.far3 (by omega) _ _ _).cell, (b1.far3 (by omega) _ _ _).cell⟩ | exact ⟨(b0.far3 (by omega) _ _ _).drew.cell, (b1.far3 (by omega) _ _ _).drew.cell⟩ | go_keep)
    (first
      | (go_at_call 87; refine (with_mnv _ _ _ _ _ _ _).mono ?_; rintro e w1 ⟨rfl, hb⟩; have hB := (by with_reducible first | exact b_keep hb hB | exact b_keep hb hB.drew); replace b0 : Blk w1 _ _ _ := (by with_reducible first | exact Blk.keep hb b0 | exact Blk.keep hb b0.drew); replace b1 : Blk w1 _ _ _ := (by with_reducible first | exact Blk.keep hb b1 | exact Blk.keep hb b1.drew); replace b2 : Blk w1 _ _ _ := (by with_reducible first | exact Blk.keep hb b2 | exact Blk.keep hb b2.drew); replace l0 := b0.lt; replace l1 := b1.lt; replace l2 := b2.lt; replace c0 := b0.cell; replace c1 := b1.cell; replace c2 := b2.cell; replace f0 := b0.frozen; replace f1 := b1.frozen; replace f2 := b2.frozen)
      | (go_at_call 68; refine (clamped_any _ _ _ _).mono ?_; rintro e w1 ⟨rfl, hb⟩; have hB := (by with_reducible first | exact b_keep hb hB | exact b_keep hb hB.drew); replace b0 : Blk w1 _ _ _ := (by with_reducible first | exact Blk.keep hb b0 | exact Blk.keep hb b0.drew); replace b1 : Blk w1 _ _ _ := (by with_reducible first | exact Blk.keep hb b1 | exact Blk.keep hb b1.drew); replace b2 : Blk w1 _ _ _ := (by with_reducible first | exact Blk.keep hb b2 | exact Blk.keep hb b2.drew); replace l0 := b0.lt; replace l1 := b1.lt; replace l2 := b2.lt; replace c0 := b0.cell; replace c1 := b1.cell; replace c2 := b2.cell; replace f0 := b0.frozen; replace f1 := b1.frozen; replace f2 := b2.frozen))
  go_wp2
  exact bodyPost_ret (v := vec (mnZ (cl x) (cl x1)) (mnZ (cl y) (cl y1)) (mnZ (cl z) (cl z1))) (by simp [results, Try.results59, go_sem, c2]) rfl ⟨rfl, ((hB.setCell (by dsimp only; omega) _).setCell (by dsimp only; omega) _).setCell (by dsimp only; omega) _⟩
set_option maxHeartbeats 2000000 in
theorem maxI (x y z x1 y1 z1 : Int) (w : World) :
    Calls Try.prog 60 #[.agg #[.int .i64 (x), .int .i64 (y), .int .i64 (z)], .agg #[.int .i64 (x1), .int .i64 (y1), .int .i64 (z1)]] w fun e w' => e = .returned (vec (mxZ (cl x) (cl x1)) (mxZ (cl y) (cl y1)) (mxZ (cl z) (cl z1))) ∧ Below w.heap.size w w' := by
  have hB := below3 w (.cells #[.int .i64 (x), .int .i64 (y), .int .i64 (z)] 26) (.cells #[.int .i64 (x1), .int .i64 (y1), .int .i64 (z1)] 26) (.cells #[.int .i64 (0), .int .i64 (0), .int .i64 (0)] 26)
  obtain ⟨b0, b1, b2⟩ := blk3 w #[.int .i64 (x), .int .i64 (y), .int .i64 (z)] #[.int .i64 (x1), .int .i64 (y1), .int .i64 (z1)] #[.int .i64 (0), .int .i64 (0), .int .i64 (0)] 26 26 26
  go_enter Try.func60, Try.ntmps60
  go_wp2
  generalize (((w.alloc (.cells #[.int .i64 (x), .int .i64 (y), .int .i64 (z)] 26)).alloc (.cells #[.int .i64 (x1), .int .i64 (y1), .int .i64 (z1)] 26)).alloc (.cells #[.int .i64 (0), .int .i64 (0), .int .i64 (0)] 26)) = W0 at hB b0 b1 b2 ⊢
  have c0 := b0.cell
  have f0 := b0.frozen
  have l0 := b0.lt
  have c1 := b1.cell
  have f1 := b1.frozen
  have l1 := b1.lt
  have c2 := b2.cell
  have f2 := b2.frozen
  have l2 := b2.lt
  go_region_held3 (fun w' => (∀ i, w'.cell? ⟨w.heap.size, i, none⟩ = (#[.int .i64 (x), .int .i64 (y), .int .i64 (z)] : Array Value)[i]?) ∧ (∀ i, w'.cell? ⟨w.heap.size + 1, i, none⟩ = (#[.int .i64 (x1), .int .i64 (y1), .int .i64 (z1)] : Array Value)[i]?)) (first | with_reducible exact ⟨b0.cell, b1.cell⟩ | with_reducible exact ⟨b0.drew.cell, b1.drew.cell⟩ | with_reducible exact ⟨(b0.alloc _).cell, (b1.alloc _).cell⟩ | with_reducible exact ⟨(b0.alloc _).drew.cell, (b1.alloc _).drew.cell⟩ | exact ⟨(b0.far3 (by omega) _ _ _).cell, (b1.far3 (by omega) _ _ _).cell⟩ | exact ⟨(b0.far3 (by omega) _ _ _).drew.cell, (b1.far3 (by omega) _ _ _).drew.cell⟩ | go_keep)
    (first
      | (go_at_call 87; refine (with_mxv _ _ _ _ _ _ _).mono ?_; rintro e w1 ⟨rfl, hb⟩; have hB := (by with_reducible first | exact b_keep hb hB | exact b_keep hb hB.drew); replace b0 : Blk w1 _ _ _ := (by with_reducible first | exact Blk.keep hb b0 | exact Blk.keep hb b0.drew); replace b1 : Blk w1 _ _ _ := (by with_reducible first | exact Blk.keep hb b1 | exact Blk.keep hb b1.drew); replace b2 : Blk w1 _ _ _ := (by with_reducible first | exact Blk.keep hb b2 | exact Blk.keep hb b2.drew); replace l0 := b0.lt; replace l1 := b1.lt; replace l2 := b2.lt; replace c0 := b0.cell; replace c1 := b1.cell; replace c2 := b2.cell; replace f0 := b0.frozen; replace f1 := b1.frozen; replace f2 := b2.frozen)
      | (go_at_call 68; refine (clamped_any _ _ _ _).mono ?_; rintro e w1 ⟨rfl, hb⟩; have hB := (by with_reducible first | exact b_keep hb hB | exact b_keep hb hB.drew); replace b0 : Blk w1 _ _ _ := (by with_reducible first | exact Blk.keep hb b0 | exact Blk.keep hb b0.drew); replace b1 : Blk w1 _ _ _ := (by with_reducible first | exact Blk.keep hb b1 | exact Blk.keep hb b1.drew); replace b2 : Blk w1 _ _ _ := (by with_reducible first | exact Blk.keep hb b2 | exact Blk.keep hb b2.drew); replace l0 := b0.lt; replace l1 := b1.lt; replace l2 := b2.lt; replace c0 := b0.cell; replace c1 := b1.cell; replace c2 := b2.cell; replace f0 := b0.frozen; replace f1 := b1.frozen; replace f2 := b2.frozen))
  go_wp2
  exact bodyPost_ret (v := vec (mxZ (cl x) (cl x1)) (mxZ (cl y) (cl y1)) (mxZ (cl z) (cl z1))) (by simp [results, Try.results60, go_sem, c2]) rfl ⟨rfl, ((hB.setCell (by dsimp only; omega) _).setCell (by dsimp only; omega) _).setCell (by dsimp only; omega) _⟩
set_option maxHeartbeats 400000 in
theorem l01Min_any (a b : Int) (w : World) : Calls Try.prog 92 #[.int .i64 a, .int .i64 b] w fun e w' => e = .returned (.int .i64 (mnZ a b)) ∧ w = w' := by
  go_enter Try.func92, Try.ntmps92
  go_wp2
  all_goals
    go_ret
    exact ⟨ret_int (by first | (unfold mnZ; omega) | (unfold mxZ; omega)), rfl⟩
set_option maxHeartbeats 2000000 in
theorem minS (x y z x1 y1 z1 : Int) (w : World) :
    Calls Try.prog 57 #[.agg #[.int .i64 (x), .int .i64 (y), .int .i64 (z)], .agg #[.int .i64 (x1), .int .i64 (y1), .int .i64 (z1)]] w fun e w' => e = .returned (vec (mnZ (cl x) (cl x1)) (mnZ (cl y) (cl y1)) (mnZ (cl z) (cl z1))) ∧ Below w.heap.size w w' := by
  have hB := below3 w (.cells #[.int .i64 (x), .int .i64 (y), .int .i64 (z)] 26) (.cells #[.int .i64 (x1), .int .i64 (y1), .int .i64 (z1)] 26) (.cells #[.int .i64 (0), .int .i64 (0), .int .i64 (0)] 26)
  obtain ⟨b0, b1, b2⟩ := blk3 w #[.int .i64 (x), .int .i64 (y), .int .i64 (z)] #[.int .i64 (x1), .int .i64 (y1), .int .i64 (z1)] #[.int .i64 (0), .int .i64 (0), .int .i64 (0)] 26 26 26
  go_enter Try.func57, Try.ntmps57
  go_wp2_with fail
  generalize (((w.alloc (.cells #[.int .i64 (x), .int .i64 (y), .int .i64 (z)] 26)).alloc (.cells #[.int .i64 (x1), .int .i64 (y1), .int .i64 (z1)] 26)).alloc (.cells #[.int .i64 (0), .int .i64 (0), .int .i64 (0)] 26)) = W0 at hB b0 b1 b2 ⊢
  have c0 := b0.cell
  have f0 := b0.frozen
  have l0 := b0.lt
  have c1 := b1.cell
  have f1 := b1.frozen
  have l1 := b1.lt
  have c2 := b2.cell
  have f2 := b2.frozen
  have l2 := b2.lt
  refine (l02V_any _ _ _ _).mono ?_
  rintro e w1 ⟨rfl, hb⟩
  have hB := (by with_reducible first | exact b_keep hb hB | exact b_keep hb hB.drew)
  replace b0 : Blk w1 _ _ _ := (by with_reducible first | exact Blk.keep hb b0 | exact Blk.keep hb b0.drew)
  replace b1 : Blk w1 _ _ _ := (by with_reducible first | exact Blk.keep hb b1 | exact Blk.keep hb b1.drew)
  replace b2 : Blk w1 _ _ _ := (by with_reducible first | exact Blk.keep hb b2 | exact Blk.keep hb b2.drew)
  replace l0 := b0.lt
  replace l1 := b1.lt
  replace l2 := b2.lt
  replace c0 := b0.cell
  replace c1 := b1.cell
  replace c2 := b2.cell
  replace f0 := b0.frozen
  replace f1 := b1.frozen
  replace f2 := b2.frozen
  clear hb
  go_wp2_with fail
  have d3_0 := b0.lt
  have d3_1 := b1.lt
  have d3_2 := b2.lt
  have g3 := hB.size
  replace b0 := b0.alloc (.cells #[.int .i64 (cl x), .int .i64 (cl y), .int .i64 (cl z)] 26)
  replace b1 := b1.alloc (.cells #[.int .i64 (cl x), .int .i64 (cl y), .int .i64 (cl z)] 26)
  replace b2 := b2.alloc (.cells #[.int .i64 (cl x), .int .i64 (cl y), .int .i64 (cl z)] 26)
  have b3 := Blk.new w1 26 #[.int .i64 (cl x), .int .i64 (cl y), .int .i64 (cl z)]
  replace hB := hB.alloc hB.size (.cells #[.int .i64 (cl x), .int .i64 (cl y), .int .i64 (cl z)] 26)
  clear c0 f0 l0 c1 f1 l1 c2 f2 l2
  generalize w1.heap.size = q3 at b3 g3 d3_0 d3_1 d3_2 ⊢
  generalize w1.alloc (.cells #[.int .i64 (cl x), .int .i64 (cl y), .int .i64 (cl z)] 26) = W3 at hB b0 b1 b2 b3 ⊢
  have c0 := b0.cell
  have f0 := b0.frozen
  have l0 := b0.lt
  have c1 := b1.cell
  have f1 := b1.frozen
  have l1 := b1.lt
  have c2 := b2.cell
  have f2 := b2.frozen
  have l2 := b2.lt
  have c3 := b3.cell
  have f3 := b3.frozen
  have l3 := b3.lt
  refine (l02V_any _ _ _ _).mono ?_
  rintro e w1 ⟨rfl, hb⟩
  have hB := (by with_reducible first | exact b_keep hb hB | exact b_keep hb hB.drew)
  replace b0 : Blk w1 _ _ _ := (by with_reducible first | exact Blk.keep hb b0 | exact Blk.keep hb b0.drew)
  replace b1 : Blk w1 _ _ _ := (by with_reducible first | exact Blk.keep hb b1 | exact Blk.keep hb b1.drew)
  replace b2 : Blk w1 _ _ _ := (by with_reducible first | exact Blk.keep hb b2 | exact Blk.keep hb b2.drew)
  replace b3 : Blk w1 _ _ _ := (by with_reducible first | exact Blk.keep hb b3 | exact Blk.keep hb b3.drew)
  replace l0 := b0.lt
  replace l1 := b1.lt
  replace l2 := b2.lt
  replace l3 := b3.lt
  replace c0 := b0.cell
  replace c1 := b1.cell
  replace c2 := b2.cell
  replace c3 := b3.cell
  replace f0 := b0.frozen
  replace f1 := b1.frozen
  replace f2 := b2.frozen
  replace f3 := b3.frozen
  clear hb
  go_wp2_with fail
  have d4_0 := b0.lt
  have d4_1 := b1.lt
  have d4_2 := b2.lt
  have d4_3 := b3.lt
  have g4 := hB.size
  replace b0 := b0.alloc (.cells #[.int .i64 (cl x1), .int .i64 (cl y1), .int .i64 (cl z1)] 26)
  replace b1 := b1.alloc (.cells #[.int .i64 (cl x1), .int .i64 (cl y1), .int .i64 (cl z1)] 26)
  replace b2 := b2.alloc (.cells #[.int .i64 (cl x1), .int .i64 (cl y1), .int .i64 (cl z1)] 26)
  replace b3 := b3.alloc (.cells #[.int .i64 (cl x1), .int .i64 (cl y1), .int .i64 (cl z1)] 26)
  have b4 := Blk.new w1 26 #[.int .i64 (cl x1), .int .i64 (cl y1), .int .i64 (cl z1)]
  replace hB := hB.alloc hB.size (.cells #[.int .i64 (cl x1), .int .i64 (cl y1), .int .i64 (cl z1)] 26)
  clear c0 f0 l0 c1 f1 l1 c2 f2 l2 c3 f3 l3
  generalize w1.heap.size = q4 at b4 g4 d4_0 d4_1 d4_2 d4_3 ⊢
  generalize w1.alloc (.cells #[.int .i64 (cl x1), .int .i64 (cl y1), .int .i64 (cl z1)] 26) = W4 at hB b0 b1 b2 b3 b4 ⊢
  have c0 := b0.cell
  have f0 := b0.frozen
  have l0 := b0.lt
  have c1 := b1.cell
  have f1 := b1.frozen
  have l1 := b1.lt
  have c2 := b2.cell
  have f2 := b2.frozen
  have l2 := b2.lt
  have c3 := b3.cell
  have f3 := b3.frozen
  have l3 := b3.lt
  have c4 := b4.cell
  have f4 := b4.frozen
  have l4 := b4.lt
  go_region_held3 (fun w' => (∀ i, w'.cell? ⟨q3, i, none⟩ = (#[.int .i64 (cl x), .int .i64 (cl y), .int .i64 (cl z)] : Array Value)[i]?) ∧ (∀ i, w'.cell? ⟨q4, i, none⟩ = (#[.int .i64 (cl x1), .int .i64 (cl y1), .int .i64 (cl z1)] : Array Value)[i]?)) (first | with_reducible exact ⟨b3.cell, b4.cell⟩ | with_reducible exact ⟨b3.drew.cell, b4.drew.cell⟩ | with_reducible exact ⟨(b3.alloc _).cell, (b4.alloc _).cell⟩ | with_reducible exact ⟨(b3.alloc _).drew.cell, (b4.alloc _).drew.cell⟩ | exact ⟨(b3.far3 (by omega) _ _ _).cell, (b4.far3 (by omega) _ _ _).cell⟩ | exact ⟨(b3.far3 (by omega) _ _ _).drew.cell, (b4.far3 (by omega) _ _ _).drew.cell⟩ | go_keep)
    (first | (go_at_call 92; refine (l01Min_any _ _ _).mono ?_; rintro e w' ⟨rfl, rfl⟩))
  go_wp2
  exact bodyPost_ret (v := vec (mnZ (cl x) (cl x1)) (mnZ (cl y) (cl y1)) (mnZ (cl z) (cl z1))) (by simp [results, Try.results57, go_sem, c2]) rfl ⟨rfl, (((hB.setCell (by dsimp only; omega) _).setCell (by dsimp only; omega) _).setCell (by dsimp only; omega) _).drew⟩
set_option maxHeartbeats 400000 in
theorem l01Max_any (a b : Int) (w : World) : Calls Try.prog 93 #[.int .i64 a, .int .i64 b] w fun e w' => e = .returned (.int .i64 (mxZ a b)) ∧ w = w' := by
  go_enter Try.func93, Try.ntmps93
  go_wp2
  all_goals
    go_ret
    exact ⟨ret_int (by first | (unfold mnZ; omega) | (unfold mxZ; omega)), rfl⟩
set_option maxHeartbeats 2000000 in
theorem maxS (x y z x1 y1 z1 : Int) (w : World) :
    Calls Try.prog 58 #[.agg #[.int .i64 (x), .int .i64 (y), .int .i64 (z)], .agg #[.int .i64 (x1), .int .i64 (y1), .int .i64 (z1)]] w fun e w' => e = .returned (vec (mxZ (cl x) (cl x1)) (mxZ (cl y) (cl y1)) (mxZ (cl z) (cl z1))) ∧ Below w.heap.size w w' := by
  have hB := below3 w (.cells #[.int .i64 (x), .int .i64 (y), .int .i64 (z)] 26) (.cells #[.int .i64 (x1), .int .i64 (y1), .int .i64 (z1)] 26) (.cells #[.int .i64 (0), .int .i64 (0), .int .i64 (0)] 26)
  obtain ⟨b0, b1, b2⟩ := blk3 w #[.int .i64 (x), .int .i64 (y), .int .i64 (z)] #[.int .i64 (x1), .int .i64 (y1), .int .i64 (z1)] #[.int .i64 (0), .int .i64 (0), .int .i64 (0)] 26 26 26
  go_enter Try.func58, Try.ntmps58
  go_wp2_with fail
  generalize (((w.alloc (.cells #[.int .i64 (x), .int .i64 (y), .int .i64 (z)] 26)).alloc (.cells #[.int .i64 (x1), .int .i64 (y1), .int .i64 (z1)] 26)).alloc (.cells #[.int .i64 (0), .int .i64 (0), .int .i64 (0)] 26)) = W0 at hB b0 b1 b2 ⊢
  have c0 := b0.cell
  have f0 := b0.frozen
  have l0 := b0.lt
  have c1 := b1.cell
  have f1 := b1.frozen
  have l1 := b1.lt
  have c2 := b2.cell
  have f2 := b2.frozen
  have l2 := b2.lt
  refine (l02V_any _ _ _ _).mono ?_
  rintro e w1 ⟨rfl, hb⟩
  have hB := (by with_reducible first | exact b_keep hb hB | exact b_keep hb hB.drew)
  replace b0 : Blk w1 _ _ _ := (by with_reducible first | exact Blk.keep hb b0 | exact Blk.keep hb b0.drew)
  replace b1 : Blk w1 _ _ _ := (by with_reducible first | exact Blk.keep hb b1 | exact Blk.keep hb b1.drew)
  replace b2 : Blk w1 _ _ _ := (by with_reducible first | exact Blk.keep hb b2 | exact Blk.keep hb b2.drew)
  replace l0 := b0.lt
  replace l1 := b1.lt
  replace l2 := b2.lt
  replace c0 := b0.cell
  replace c1 := b1.cell
  replace c2 := b2.cell
  replace f0 := b0.frozen
  replace f1 := b1.frozen
  replace f2 := b2.frozen
  clear hb
  go_wp2_with fail
  have d3_0 := b0.lt
  have d3_1 := b1.lt
  have d3_2 := b2.lt
  have g3 := hB.size
  replace b0 := b0.alloc (.cells #[.int .i64 (cl x), .int .i64 (cl y), .int .i64 (cl z)] 26)
  replace b1 := b1.alloc (.cells #[.int .i64 (cl x), .int .i64 (cl y), .int .i64 (cl z)] 26)
  replace b2 := b2.alloc (.cells #[.int .i64 (cl x), .int .i64 (cl y), .int .i64 (cl z)] 26)
  have b3 := Blk.new w1 26 #[.int .i64 (cl x), .int .i64 (cl y), .int .i64 (cl z)]
  replace hB := hB.alloc hB.size (.cells #[.int .i64 (cl x), .int .i64 (cl y), .int .i64 (cl z)] 26)
  clear c0 f0 l0 c1 f1 l1 c2 f2 l2
  generalize w1.heap.size = q3 at b3 g3 d3_0 d3_1 d3_2 ⊢
  generalize w1.alloc (.cells #[.int .i64 (cl x), .int .i64 (cl y), .int .i64 (cl z)] 26) = W3 at hB b0 b1 b2 b3 ⊢
  have c0 := b0.cell
  have f0 := b0.frozen
  have l0 := b0.lt
  have c1 := b1.cell
  have f1 := b1.frozen
  have l1 := b1.lt
  have c2 := b2.cell
  have f2 := b2.frozen
  have l2 := b2.lt
  have c3 := b3.cell
  have f3 := b3.frozen
  have l3 := b3.lt
  refine (l02V_any _ _ _ _).mono ?_
  rintro e w1 ⟨rfl, hb⟩
  have hB := (by with_reducible first | exact b_keep hb hB | exact b_keep hb hB.drew)
  replace b0 : Blk w1 _ _ _ := (by with_reducible first | exact Blk.keep hb b0 | exact Blk.keep hb b0.drew)
  replace b1 : Blk w1 _ _ _ := (by with_reducible first | exact Blk.keep hb b1 | exact Blk.keep hb b1.drew)
  replace b2 : Blk w1 _ _ _ := (by with_reducible first | exact Blk.keep hb b2 | exact Blk.keep hb b2.drew)
  replace b3 : Blk w1 _ _ _ := (by with_reducible first | exact Blk.keep hb b3 | exact Blk.keep hb b3.drew)
  replace l0 := b0.lt
  replace l1 := b1.lt
  replace l2 := b2.lt
  replace l3 := b3.lt
  replace c0 := b0.cell
  replace c1 := b1.cell
  replace c2 := b2.cell
  replace c3 := b3.cell
  replace f0 := b0.frozen
  replace f1 := b1.frozen
  replace f2 := b2.frozen
  replace f3 := b3.frozen
  clear hb
  go_wp2_with fail
  have d4_0 := b0.lt
  have d4_1 := b1.lt
  have d4_2 := b2.lt
  have d4_3 := b3.lt
  have g4 := hB.size
  replace b0 := b0.alloc (.cells #[.int .i64 (cl x1), .int .i64 (cl y1), .int .i64 (cl z1)] 26)
  replace b1 := b1.alloc (.cells #[.int .i64 (cl x1), .int .i64 (cl y1), .int .i64 (cl z1)] 26)
  replace b2 := b2.alloc (.cells #[.int .i64 (cl x1), .int .i64 (cl y1), .int .i64 (cl z1)] 26)
  replace b3 := b3.alloc (.cells #[.int .i64 (cl x1), .int .i64 (cl y1), .int .i64 (cl z1)] 26)
  have b4 := Blk.new w1 26 #[.int .i64 (cl x1), .int .i64 (cl y1), .int .i64 (cl z1)]
  replace hB := hB.alloc hB.size (.cells #[.int .i64 (cl x1), .int .i64 (cl y1), .int .i64 (cl z1)] 26)
  clear c0 f0 l0 c1 f1 l1 c2 f2 l2 c3 f3 l3
  generalize w1.heap.size = q4 at b4 g4 d4_0 d4_1 d4_2 d4_3 ⊢
  generalize w1.alloc (.cells #[.int .i64 (cl x1), .int .i64 (cl y1), .int .i64 (cl z1)] 26) = W4 at hB b0 b1 b2 b3 b4 ⊢
  have c0 := b0.cell
  have f0 := b0.frozen
  have l0 := b0.lt
  have c1 := b1.cell
  have f1 := b1.frozen
  have l1 := b1.lt
  have c2 := b2.cell
  have f2 := b2.frozen
  have l2 := b2.lt
  have c3 := b3.cell
  have f3 := b3.frozen
  have l3 := b3.lt
  have c4 := b4.cell
  have f4 := b4.frozen
  have l4 := b4.lt
  go_region_held3 (fun w' => (∀ i, w'.cell? ⟨q3, i, none⟩ = (#[.int .i64 (cl x), .int .i64 (cl y), .int .i64 (cl z)] : Array Value)[i]?) ∧ (∀ i, w'.cell? ⟨q4, i, none⟩ = (#[.int .i64 (cl x1), .int .i64 (cl y1), .int .i64 (cl z1)] : Array Value)[i]?)) (first | with_reducible exact ⟨b3.cell, b4.cell⟩ | with_reducible exact ⟨b3.drew.cell, b4.drew.cell⟩ | with_reducible exact ⟨(b3.alloc _).cell, (b4.alloc _).cell⟩ | with_reducible exact ⟨(b3.alloc _).drew.cell, (b4.alloc _).drew.cell⟩ | exact ⟨(b3.far3 (by omega) _ _ _).cell, (b4.far3 (by omega) _ _ _).cell⟩ | exact ⟨(b3.far3 (by omega) _ _ _).drew.cell, (b4.far3 (by omega) _ _ _).drew.cell⟩ | go_keep)
    (first | (go_at_call 93; refine (l01Max_any _ _ _).mono ?_; rintro e w' ⟨rfl, rfl⟩))
  go_wp2
  exact bodyPost_ret (v := vec (mxZ (cl x) (cl x1)) (mxZ (cl y) (cl y1)) (mxZ (cl z) (cl z1))) (by simp [results, Try.results58, go_sem, c2]) rfl ⟨rfl, (((hB.setCell (by dsimp only; omega) _).setCell (by dsimp only; omega) _).setCell (by dsimp only; omega) _).drew⟩
end Go.Proofs.Ytobfccoljijnkaa
