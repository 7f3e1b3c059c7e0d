/- Contracts of the functions on vectors, continued: Add, Dot, IsValidVec, of the program and of the reference. -/
import Derived.Test.YtnibknaemgpjdaaDoorVec2
namespace Go.Proofs.YtnibknaemgpjdaaDoor
open Go.RowKit

/-- Is each component a coordinate? -/
def vb (x y z : Int) : Bool := decide (x = cl x) && (decide (y = cl y) && decide (z = cl z))
/-- '==' on two vectors. -/
theorem equalIn_vec (a b c d e f : Int) (w : World) : (Op.equalIn 10000 23 (.agg #[.int .i64 (a), .int .i64 (b), .int .i64 (c)]) (.agg #[.int .i64 (d), .int .i64 (e), .int .i64 (f)])).run Tryd.prog w = .ok (decide (a = d) && (decide (b = e) && decide (c = f))) w := by
  have hS : Tryd.prog.underlying 23 = some (.struct (Tryd.prog.fieldsOf 23)) := by kernel_rfl
  have hp : Tryd.prog.stoodInHeld 23 = false := by kernel_rfl
  rw [show (10000 : Nat) = 9999 + 1 from rfl, run_equalIn_agg w 9999 23 _ _ hS hp]
  simp only [Program.fieldsOf, Tryd.underlying23]
  go_simp
  by_cases h1 : a = d <;> by_cases h2 : b = e <;> by_cases h3 : c = f <;> simp [h1, h2, h3]
theorem guard_vec : Tryd.prog.eqGuardType Tryd.prog.depth 23 = false := by kernel_rfl

set_option maxHeartbeats 2000000 in
theorem addI (x y z x1 y1 z1 : Int) (w : World) :
    Calls Tryd.prog 28 #[.agg #[.int .i64 (x), .int .i64 (y), .int .i64 (z)], .agg #[.int .i64 (x1), .int .i64 (y1), .int .i64 (z1)]] w
      fun e w' => e = .returned (vec (cl (cl x + cl x1)) (cl (cl y + cl y1)) (cl (cl z + cl z1))) ∧ Below w.heap.size w w' := by
  have bx := cl_bd x
  have by' := cl_bd y
  have bz := cl_bd z
  have bx1 := cl_bd x1
  have by1 := cl_bd y1
  have bz1 := cl_bd z1
  have H := Lib.hid (plus_any (cl x) (cl y) (cl z) (cl x1) (cl y1) (cl z1) (by omega) (by omega) (by omega) (by omega) (by omega) (by omega) (by omega) (by omega) (by omega) (by omega) (by omega) (by omega))
  clear bx by' bz bx1 by1 bz1
  have hB := below3 w (.cells #[.int .i64 (x), .int .i64 (y), .int .i64 (z)] 23) (.cells #[.int .i64 (x1), .int .i64 (y1), .int .i64 (z1)] 23) (.cells #[.int .i64 (0), .int .i64 (0), .int .i64 (0)] 23)
  obtain ⟨b0, b1, b2⟩ := blk3 w #[.int .i64 (x), .int .i64 (y), .int .i64 (z)] #[.int .i64 (x1), .int .i64 (y1), .int .i64 (z1)] #[.int .i64 (0), .int .i64 (0), .int .i64 (0)] 23 23 23
  go_enter Tryd.func28, Tryd.ntmps28
  go_wp2
  generalize (((w.alloc (.cells #[.int .i64 (x), .int .i64 (y), .int .i64 (z)] 23)).alloc (.cells #[.int .i64 (x1), .int .i64 (y1), .int .i64 (z1)] 23)).alloc (.cells #[.int .i64 (0), .int .i64 (0), .int .i64 (0)] 23)) = W0 at hB b0 b1 b2 ⊢
  have c0 := b0.cell
  have f0 := b0.frozen
  have l0 := b0.lt
  have c1 := b1.cell
  have f1 := b1.frozen
  have l1 := b1.lt
  have c2 := b2.cell
  have f2 := b2.frozen
  have l2 := b2.lt
  go_region_held3 (fun w' => (∀ i, w'.cell? ⟨w.heap.size, i, none⟩ = (#[.int .i64 (x), .int .i64 (y), .int .i64 (z)] : Array Value)[i]?) ∧ (∀ i, w'.cell? ⟨w.heap.size + 1, i, none⟩ = (#[.int .i64 (x1), .int .i64 (y1), .int .i64 (z1)] : Array Value)[i]?)) (first | exact ⟨c0, c1⟩ | exact ⟨far3 b0 (by omega) _ _ _, far3 b1 (by omega) _ _ _⟩ | go_keep)
    (first
      | (go_at_call 64; refine (H.out _).mono ?_; rintro e w1 ⟨rfl, hb⟩; have hB := (by with_reducible first | exact b_keep hb hB | exact b_keep hb hB.drew); replace b0 : Blk w1 _ _ _ := (by with_reducible first | exact Blk.keep hb b0 | exact Blk.keep hb b0.drew); replace b1 : Blk w1 _ _ _ := (by with_reducible first | exact Blk.keep hb b1 | exact Blk.keep hb b1.drew); replace b2 : Blk w1 _ _ _ := (by with_reducible first | exact Blk.keep hb b2 | exact Blk.keep hb b2.drew); replace l0 := b0.lt; replace l1 := b1.lt; replace l2 := b2.lt; replace c0 := b0.cell; replace c1 := b1.cell; replace c2 := b2.cell; replace f0 := b0.frozen; replace f1 := b1.frozen; replace f2 := b2.frozen)
      | (go_at_call 63; refine (clamped_any _ _ _ _).mono ?_; rintro e w1 ⟨rfl, hb⟩; have hB := (by with_reducible first | exact b_keep hb hB | exact b_keep hb hB.drew); replace b0 : Blk w1 _ _ _ := (by with_reducible first | exact Blk.keep hb b0 | exact Blk.keep hb b0.drew); replace b1 : Blk w1 _ _ _ := (by with_reducible first | exact Blk.keep hb b1 | exact Blk.keep hb b1.drew); replace b2 : Blk w1 _ _ _ := (by with_reducible first | exact Blk.keep hb b2 | exact Blk.keep hb b2.drew); replace l0 := b0.lt; replace l1 := b1.lt; replace l2 := b2.lt; replace c0 := b0.cell; replace c1 := b1.cell; replace c2 := b2.cell; replace f0 := b0.frozen; replace f1 := b1.frozen; replace f2 := b2.frozen))
  go_wp2
  exact bodyPost_ret (v := vec (cl (cl x + cl x1)) (cl (cl y + cl y1)) (cl (cl z + cl z1))) (by simp [results, Tryd.results28, go_sem, c2]) rfl ⟨rfl, ((hB.setCell (by simp; omega) _).setCell (by simp; omega) _).setCell (by simp; omega) _⟩
set_option maxHeartbeats 2000000 in
theorem isValidVecI (x y z : Int) (w : World) :
    Calls Tryd.prog 62 #[.agg #[.int .i64 (x), .int .i64 (y), .int .i64 (z)]] w fun e w' => e = .returned (.bool (vb x y z)) ∧ Below w.heap.size w w' := by
  have hB := below1 w (.cells #[.int .i64 (x), .int .i64 (y), .int .i64 (z)] 23)
  have b0 := Blk.new w 23 #[.int .i64 (x), .int .i64 (y), .int .i64 (z)]
  have he := fun W => equalIn_vec x y z (cl x) (cl y) (cl z) W
  have hg := guard_vec
  go_enter Tryd.func62, Tryd.ntmps62
  go_wp2
  generalize w.alloc (.cells #[.int .i64 (x), .int .i64 (y), .int .i64 (z)] 23) = W0 at hB b0 ⊢
  have c0 := b0.cell
  have f0 := b0.frozen
  have l0 := b0.lt
  go_region_held3 (fun w' => (∀ i, w'.cell? ⟨w.heap.size, i, none⟩ = (#[.int .i64 (x), .int .i64 (y), .int .i64 (z)] : Array Value)[i]?)) (first | exact c0 | go_keep)
    (first | (go_at_call 63; refine (clamped_any _ _ _ _).mono ?_; rintro e w1 ⟨rfl, hb⟩; have hB := (by with_reducible first | exact b_keep hb hB | exact b_keep hb hB.drew); replace b0 : Blk w1 _ _ _ := (by with_reducible first | exact Blk.keep hb b0 | exact Blk.keep hb b0.drew); replace l0 := b0.lt; replace c0 := b0.cell; replace f0 := b0.frozen))
  go_wp2
  go_ret
  exact ⟨rfl, hB⟩
set_option maxHeartbeats 2000000 in
theorem isValidVecS (x y z : Int) (w : World) :
    Calls Tryd.prog 98 #[.agg #[.int .i64 (x), .int .i64 (y), .int .i64 (z)]] w fun e w' => e = .returned (.bool (vb x y z)) ∧ Below w.heap.size w w' := by
  have hB := below1 w (.cells #[.int .i64 (x), .int .i64 (y), .int .i64 (z)] 23)
  have b0 := Blk.new w 23 #[.int .i64 (x), .int .i64 (y), .int .i64 (z)]
  have he := fun W => equalIn_vec x y z (cl x) (cl y) (cl z) W
  have hg := guard_vec
  go_enter Tryd.func98, Tryd.ntmps98
  go_wp2
  generalize w.alloc (.cells #[.int .i64 (x), .int .i64 (y), .int .i64 (z)] 23) = W0 at hB b0 ⊢
  have c0 := b0.cell
  have f0 := b0.frozen
  have l0 := b0.lt
  go_region_held3 (fun w' => (∀ i, w'.cell? ⟨w.heap.size, i, none⟩ = (#[.int .i64 (x), .int .i64 (y), .int .i64 (z)] : Array Value)[i]?)) (first | exact c0 | go_keep)
    (first | (go_at_call 112; refine (l02V_any _ _ _ _).mono ?_; rintro e w1 ⟨rfl, hb⟩; have hB := (by with_reducible first | exact b_keep hb hB | exact b_keep hb hB.drew); replace b0 : Blk w1 _ _ _ := (by with_reducible first | exact Blk.keep hb b0 | exact Blk.keep hb b0.drew); replace l0 := b0.lt; replace c0 := b0.cell; replace f0 := b0.frozen))
  go_wp2
  go_ret
  exact ⟨rfl, hB⟩
end Go.Proofs.YtnibknaemgpjdaaDoor
