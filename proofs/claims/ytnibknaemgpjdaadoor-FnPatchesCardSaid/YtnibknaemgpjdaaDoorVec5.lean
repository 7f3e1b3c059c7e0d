/- Contracts of the functions on vectors, continued: MinVec, MaxVec, SubVec. -/
import Derived.Test.YtnibknaemgpjdaaDoorVecW
import Derived.Test.YtnibknaemgpjdaaDoorVec4
namespace Go.Proofs.YtnibknaemgpjdaaDoor
open Go.RowKit

set_option maxHeartbeats 2000000 in
theorem minI (x y z x1 y1 z1 : Int) (w : World) :
    Calls Tryd.prog 32 #[.agg #[.int .i64 (x), .int .i64 (y), .int .i64 (z)], .agg #[.int .i64 (x1), .int .i64 (y1), .int .i64 (z1)]] w fun e w' => e = .returned (vec (mnZ (cl x) (cl x1)) (mnZ (cl y) (cl y1)) (mnZ (cl z) (cl z1))) ∧ Below w.heap.size w w' := by
  have hB := below3 w (.cells #[.int .i64 (x), .int .i64 (y), .int .i64 (z)] 23) (.cells #[.int .i64 (x1), .int .i64 (y1), .int .i64 (z1)] 23) (.cells #[.int .i64 (0), .int .i64 (0), .int .i64 (0)] 23)
  obtain ⟨b0, b1, b2⟩ := blk3 w #[.int .i64 (x), .int .i64 (y), .int .i64 (z)] #[.int .i64 (x1), .int .i64 (y1), .int .i64 (z1)] #[.int .i64 (0), .int .i64 (0), .int .i64 (0)] 23 23 23
  go_enter Tryd.func32, Tryd.ntmps32
  go_wp2
  generalize (((w.alloc (.cells #[.int .i64 (x), .int .i64 (y), .int .i64 (z)] 23)).alloc (.cells #[.int .i64 (x1), .int .i64 (y1), .int .i64 (z1)] 23)).alloc (.cells #[.int .i64 (0), .int .i64 (0), .int .i64 (0)] 23)) = W0 at hB b0 b1 b2 ⊢
  have c0 := b0.cell
  have f0 := b0.frozen
  have l0 := b0.lt
  have c1 := b1.cell
  have f1 := b1.frozen
  have l1 := b1.lt
  have c2 := b2.cell
  have f2 := b2.frozen
  have l2 := b2.lt
  go_region_held3 (fun w' => (∀ i, w'.cell? ⟨w.heap.size, i, none⟩ = (#[.int .i64 (x), .int .i64 (y), .int .i64 (z)] : Array Value)[i]?) ∧ (∀ i, w'.cell? ⟨w.heap.size + 1, i, none⟩ = (#[.int .i64 (x1), .int .i64 (y1), .int .i64 (z1)] : Array Value)[i]?)) (first | with_reducible exact ⟨b0.cell, b1.cell⟩ | with_reducible exact ⟨b0.drew.cell, b1.drew.cell⟩ | with_reducible exact ⟨(b0.alloc _).cell, (b1.alloc _).cell⟩ | with_reducible exact ⟨(b0.alloc _).drew.cell, (b1.alloc _).drew.cell⟩ | exact ⟨(b0.far3 (by omega) _ _ _).cell, (b1.far3 (by omega) _ _ _).cell⟩ | exact ⟨(b0.far3 (by omega) _ _ _).drew.cell, (b1.far3 (by omega) _ _ _).drew.cell⟩ | go_keep)
    (first
      | (go_at_call 66; refine (with_mnv _ _ _ _ _ _ _).mono ?_; rintro e w1 ⟨rfl, hb⟩; have hB := (by with_reducible first | exact b_keep hb hB | exact b_keep hb hB.drew); replace b0 : Blk w1 _ _ _ := (by with_reducible first | exact Blk.keep hb b0 | exact Blk.keep hb b0.drew); replace b1 : Blk w1 _ _ _ := (by with_reducible first | exact Blk.keep hb b1 | exact Blk.keep hb b1.drew); replace b2 : Blk w1 _ _ _ := (by with_reducible first | exact Blk.keep hb b2 | exact Blk.keep hb b2.drew); replace l0 := b0.lt; replace l1 := b1.lt; replace l2 := b2.lt; replace c0 := b0.cell; replace c1 := b1.cell; replace c2 := b2.cell; replace f0 := b0.frozen; replace f1 := b1.frozen; replace f2 := b2.frozen)
      | (go_at_call 63; refine (clamped_any _ _ _ _).mono ?_; rintro e w1 ⟨rfl, hb⟩; have hB := (by with_reducible first | exact b_keep hb hB | exact b_keep hb hB.drew); replace b0 : Blk w1 _ _ _ := (by with_reducible first | exact Blk.keep hb b0 | exact Blk.keep hb b0.drew); replace b1 : Blk w1 _ _ _ := (by with_reducible first | exact Blk.keep hb b1 | exact Blk.keep hb b1.drew); replace b2 : Blk w1 _ _ _ := (by with_reducible first | exact Blk.keep hb b2 | exact Blk.keep hb b2.drew); replace l0 := b0.lt; replace l1 := b1.lt; replace l2 := b2.lt; replace c0 := b0.cell; replace c1 := b1.cell; replace c2 := b2.cell; replace f0 := b0.frozen; replace f1 := b1.frozen; replace f2 := b2.frozen))
  go_wp2
  exact bodyPost_ret (v := vec (mnZ (cl x) (cl x1)) (mnZ (cl y) (cl y1)) (mnZ (cl z) (cl z1))) (by simp [results, Tryd.results32, go_sem, c2]) rfl ⟨rfl, ((hB.setCell (by dsimp only; omega) _).setCell (by dsimp only; omega) _).setCell (by dsimp only; omega) _⟩
set_option maxHeartbeats 2000000 in
theorem maxI (x y z x1 y1 z1 : Int) (w : World) :
    Calls Tryd.prog 33 #[.agg #[.int .i64 (x), .int .i64 (y), .int .i64 (z)], .agg #[.int .i64 (x1), .int .i64 (y1), .int .i64 (z1)]] w fun e w' => e = .returned (vec (mxZ (cl x) (cl x1)) (mxZ (cl y) (cl y1)) (mxZ (cl z) (cl z1))) ∧ Below w.heap.size w w' := by
  have hB := below3 w (.cells #[.int .i64 (x), .int .i64 (y), .int .i64 (z)] 23) (.cells #[.int .i64 (x1), .int .i64 (y1), .int .i64 (z1)] 23) (.cells #[.int .i64 (0), .int .i64 (0), .int .i64 (0)] 23)
  obtain ⟨b0, b1, b2⟩ := blk3 w #[.int .i64 (x), .int .i64 (y), .int .i64 (z)] #[.int .i64 (x1), .int .i64 (y1), .int .i64 (z1)] #[.int .i64 (0), .int .i64 (0), .int .i64 (0)] 23 23 23
  go_enter Tryd.func33, Tryd.ntmps33
  go_wp2
  generalize (((w.alloc (.cells #[.int .i64 (x), .int .i64 (y), .int .i64 (z)] 23)).alloc (.cells #[.int .i64 (x1), .int .i64 (y1), .int .i64 (z1)] 23)).alloc (.cells #[.int .i64 (0), .int .i64 (0), .int .i64 (0)] 23)) = W0 at hB b0 b1 b2 ⊢
  have c0 := b0.cell
  have f0 := b0.frozen
  have l0 := b0.lt
  have c1 := b1.cell
  have f1 := b1.frozen
  have l1 := b1.lt
  have c2 := b2.cell
  have f2 := b2.frozen
  have l2 := b2.lt
  go_region_held3 (fun w' => (∀ i, w'.cell? ⟨w.heap.size, i, none⟩ = (#[.int .i64 (x), .int .i64 (y), .int .i64 (z)] : Array Value)[i]?) ∧ (∀ i, w'.cell? ⟨w.heap.size + 1, i, none⟩ = (#[.int .i64 (x1), .int .i64 (y1), .int .i64 (z1)] : Array Value)[i]?)) (first | with_reducible exact ⟨b0.cell, b1.cell⟩ | with_reducible exact ⟨b0.drew.cell, b1.drew.cell⟩ | with_reducible exact ⟨(b0.alloc _).cell, (b1.alloc _).cell⟩ | with_reducible exact ⟨(b0.alloc _).drew.cell, (b1.alloc _).drew.cell⟩ | exact ⟨(b0.far3 (by omega) _ _ _).cell, (b1.far3 (by omega) _ _ _).cell⟩ | exact ⟨(b0.far3 (by omega) _ _ _).drew.cell, (b1.far3 (by omega) _ _ _).drew.cell⟩ | go_keep)
    (first
      | (go_at_call 66; refine (with_mxv _ _ _ _ _ _ _).mono ?_; rintro e w1 ⟨rfl, hb⟩; have hB := (by with_reducible first | exact b_keep hb hB | exact b_keep hb hB.drew); replace b0 : Blk w1 _ _ _ := (by with_reducible first | exact Blk.keep hb b0 | exact Blk.keep hb b0.drew); replace b1 : Blk w1 _ _ _ := (by with_reducible first | exact Blk.keep hb b1 | exact Blk.keep hb b1.drew); replace b2 : Blk w1 _ _ _ := (by with_reducible first | exact Blk.keep hb b2 | exact Blk.keep hb b2.drew); replace l0 := b0.lt; replace l1 := b1.lt; replace l2 := b2.lt; replace c0 := b0.cell; replace c1 := b1.cell; replace c2 := b2.cell; replace f0 := b0.frozen; replace f1 := b1.frozen; replace f2 := b2.frozen)
      | (go_at_call 63; refine (clamped_any _ _ _ _).mono ?_; rintro e w1 ⟨rfl, hb⟩; have hB := (by with_reducible first | exact b_keep hb hB | exact b_keep hb hB.drew); replace b0 : Blk w1 _ _ _ := (by with_reducible first | exact Blk.keep hb b0 | exact Blk.keep hb b0.drew); replace b1 : Blk w1 _ _ _ := (by with_reducible first | exact Blk.keep hb b1 | exact Blk.keep hb b1.drew); replace b2 : Blk w1 _ _ _ := (by with_reducible first | exact Blk.keep hb b2 | exact Blk.keep hb b2.drew); replace l0 := b0.lt; replace l1 := b1.lt; replace l2 := b2.lt; replace c0 := b0.cell; replace c1 := b1.cell; replace c2 := b2.cell; replace f0 := b0.frozen; replace f1 := b1.frozen; replace f2 := b2.frozen))
  go_wp2
  exact bodyPost_ret (v := vec (mxZ (cl x) (cl x1)) (mxZ (cl y) (cl y1)) (mxZ (cl z) (cl z1))) (by simp [results, Tryd.results33, go_sem, c2]) rfl ⟨rfl, ((hB.setCell (by dsimp only; omega) _).setCell (by dsimp only; omega) _).setCell (by dsimp only; omega) _⟩
end Go.Proofs.YtnibknaemgpjdaaDoor
