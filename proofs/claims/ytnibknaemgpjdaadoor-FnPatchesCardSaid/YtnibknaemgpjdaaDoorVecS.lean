/- SubVec, of the program and of the reference. -/
import Derived.Test.YtnibknaemgpjdaaDoorVec4
namespace Go.Proofs.YtnibknaemgpjdaaDoor
open Go.RowKit

theorem timesNeg (x y z : Int) (xl : -1000000 ≤ x) (xh : x ≤ 1000000) (yl : -1000000 ≤ y) (yh : y ≤ 1000000) (zl : -1000000 ≤ z) (zh : z ≤ 1000000) (w : World) :
    Calls Tryd.prog 65 #[.agg #[.int .i64 (x), .int .i64 (y), .int .i64 (z)], .int .i64 (-1)] w fun e w' => e = .returned (vec (-x) (-y) (-z)) ∧ Below w.heap.size w w' :=
  (times_any x y z (-1) (by omega) (by omega) (by omega) (by omega) (by omega) (by omega) w).mono fun e w' ⟨he, hb⟩ => ⟨by rw [he, Int.neg_one_mul, Int.neg_one_mul, Int.neg_one_mul], hb⟩
theorem plusNeg (x y z x1 y1 z1 : Int) (xl : -1000000 ≤ x) (xh : x ≤ 1000000) (yl : -1000000 ≤ y) (yh : y ≤ 1000000) (zl : -1000000 ≤ z) (zh : z ≤ 1000000) (x1l : -1000000 ≤ x1) (x1h : x1 ≤ 1000000) (y1l : -1000000 ≤ y1) (y1h : y1 ≤ 1000000) (z1l : -1000000 ≤ z1) (z1h : z1 ≤ 1000000) (w : World) :
    Calls Tryd.prog 64 #[.agg #[.int .i64 (x), .int .i64 (y), .int .i64 (z)], .agg #[.int .i64 (-x1), .int .i64 (-y1), .int .i64 (-z1)]] w fun e w' => e = .returned (vec (x - x1) (y - y1) (z - z1)) ∧ Below w.heap.size w w' :=
  (plus_any x y z (-x1) (-y1) (-z1) (by omega) (by omega) (by omega) (by omega) (by omega) (by omega) (by omega) (by omega) (by omega) (by omega) (by omega) (by omega) w).mono fun e w' ⟨he, hb⟩ => ⟨by rw [he, Int.sub_eq_add_neg, Int.sub_eq_add_neg, Int.sub_eq_add_neg], hb⟩
set_option maxHeartbeats 2000000 in
theorem subI (x y z x1 y1 z1 : Int) (w : World) :
    Calls Tryd.prog 29 #[.agg #[.int .i64 (x), .int .i64 (y), .int .i64 (z)], .agg #[.int .i64 (x1), .int .i64 (y1), .int .i64 (z1)]] w fun e w' => e = .returned (vec (cl (cl x - cl x1)) (cl (cl y - cl y1)) (cl (cl z - cl z1))) ∧ Below w.heap.size w w' := by
  have kx := cl_bd x
  have ky := cl_bd y
  have kz := cl_bd z
  have kx1 := cl_bd x1
  have ky1 := cl_bd y1
  have kz1 := cl_bd z1
  have HT := Lib.hid (timesNeg (cl x1) (cl y1) (cl z1) (by omega) (by omega) (by omega) (by omega) (by omega) (by omega))
  have HP := Lib.hid (plusNeg (cl x) (cl y) (cl z) (cl x1) (cl y1) (cl z1) (by omega) (by omega) (by omega) (by omega) (by omega) (by omega) (by omega) (by omega) (by omega) (by omega) (by omega) (by omega))
  clear kx ky kz kx1 ky1 kz1
  have hB := below3 w (.cells #[.int .i64 (x), .int .i64 (y), .int .i64 (z)] 23) (.cells #[.int .i64 (x1), .int .i64 (y1), .int .i64 (z1)] 23) (.cells #[.int .i64 (0), .int .i64 (0), .int .i64 (0)] 23)
  obtain ⟨b0, b1, b2⟩ := blk3 w #[.int .i64 (x), .int .i64 (y), .int .i64 (z)] #[.int .i64 (x1), .int .i64 (y1), .int .i64 (z1)] #[.int .i64 (0), .int .i64 (0), .int .i64 (0)] 23 23 23
  go_enter Tryd.func29, Tryd.ntmps29
  go_wp2
  generalize (((w.alloc (.cells #[.int .i64 (x), .int .i64 (y), .int .i64 (z)] 23)).alloc (.cells #[.int .i64 (x1), .int .i64 (y1), .int .i64 (z1)] 23)).alloc (.cells #[.int .i64 (0), .int .i64 (0), .int .i64 (0)] 23)) = W0 at hB b0 b1 b2 ⊢
  have c0 := b0.cell
  have f0 := b0.frozen
  have l0 := b0.lt
  have c1 := b1.cell
  have f1 := b1.frozen
  have l1 := b1.lt
  have c2 := b2.cell
  have f2 := b2.frozen
  have l2 := b2.lt
  go_region_held3 (fun w' => (∀ i, w'.cell? ⟨w.heap.size, i, none⟩ = (#[.int .i64 (x), .int .i64 (y), .int .i64 (z)] : Array Value)[i]?) ∧ (∀ i, w'.cell? ⟨w.heap.size + 1, i, none⟩ = (#[.int .i64 (x1), .int .i64 (y1), .int .i64 (z1)] : Array Value)[i]?)) (first | with_reducible exact ⟨b0.cell, b1.cell⟩ | with_reducible exact ⟨b0.drew.cell, b1.drew.cell⟩ | with_reducible exact ⟨(b0.alloc _).cell, (b1.alloc _).cell⟩ | with_reducible exact ⟨(b0.alloc _).drew.cell, (b1.alloc _).drew.cell⟩ | exact ⟨(b0.far3 (by omega) _ _ _).cell, (b1.far3 (by omega) _ _ _).cell⟩ | exact ⟨(b0.far3 (by omega) _ _ _).drew.cell, (b1.far3 (by omega) _ _ _).drew.cell⟩ | go_keep)
    (first
      | (go_at_call 65; refine (HT.out _).mono ?_; rintro e w1 ⟨rfl, hb⟩; have hB := (by with_reducible first | exact b_keep hb hB | exact b_keep hb hB.drew); replace b0 : Blk w1 _ _ _ := (by with_reducible first | exact Blk.keep hb b0 | exact Blk.keep hb b0.drew); replace b1 : Blk w1 _ _ _ := (by with_reducible first | exact Blk.keep hb b1 | exact Blk.keep hb b1.drew); replace b2 : Blk w1 _ _ _ := (by with_reducible first | exact Blk.keep hb b2 | exact Blk.keep hb b2.drew); replace l0 := b0.lt; replace l1 := b1.lt; replace l2 := b2.lt; replace c0 := b0.cell; replace c1 := b1.cell; replace c2 := b2.cell; replace f0 := b0.frozen; replace f1 := b1.frozen; replace f2 := b2.frozen)
      | (go_at_call 64; refine (HP.out _).mono ?_; rintro e w1 ⟨rfl, hb⟩; have hB := (by with_reducible first | exact b_keep hb hB | exact b_keep hb hB.drew); replace b0 : Blk w1 _ _ _ := (by with_reducible first | exact Blk.keep hb b0 | exact Blk.keep hb b0.drew); replace b1 : Blk w1 _ _ _ := (by with_reducible first | exact Blk.keep hb b1 | exact Blk.keep hb b1.drew); replace b2 : Blk w1 _ _ _ := (by with_reducible first | exact Blk.keep hb b2 | exact Blk.keep hb b2.drew); replace l0 := b0.lt; replace l1 := b1.lt; replace l2 := b2.lt; replace c0 := b0.cell; replace c1 := b1.cell; replace c2 := b2.cell; replace f0 := b0.frozen; replace f1 := b1.frozen; replace f2 := b2.frozen)
      | (go_at_call 63; refine (clamped_any _ _ _ _).mono ?_; rintro e w1 ⟨rfl, hb⟩; have hB := (by with_reducible first | exact b_keep hb hB | exact b_keep hb hB.drew); replace b0 : Blk w1 _ _ _ := (by with_reducible first | exact Blk.keep hb b0 | exact Blk.keep hb b0.drew); replace b1 : Blk w1 _ _ _ := (by with_reducible first | exact Blk.keep hb b1 | exact Blk.keep hb b1.drew); replace b2 : Blk w1 _ _ _ := (by with_reducible first | exact Blk.keep hb b2 | exact Blk.keep hb b2.drew); replace l0 := b0.lt; replace l1 := b1.lt; replace l2 := b2.lt; replace c0 := b0.cell; replace c1 := b1.cell; replace c2 := b2.cell; replace f0 := b0.frozen; replace f1 := b1.frozen; replace f2 := b2.frozen))
  go_wp2
  exact bodyPost_ret (v := vec (cl (cl x - cl x1)) (cl (cl y - cl y1)) (cl (cl z - cl z1))) (by simp [results, Tryd.results29, go_sem, c2]) rfl ⟨rfl, ((hB.setCell (by dsimp only; omega) _).setCell (by dsimp only; omega) _).setCell (by dsimp only; omega) _⟩
end Go.Proofs.YtnibknaemgpjdaaDoor
