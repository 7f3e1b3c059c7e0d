/- Contracts of the functions on vectors, continued: Add, Dot, IsValidVec, of the program and of the reference. -/
import Derived.Test.YthcoogljaagneaaDoorVec2
namespace Go.Proofs.YthcoogljaagneaaDoor
open Go.RowKit

/-- Is each component a coordinate? -/
def vb (x y z : Int) : Bool := decide (x = cl x) && (decide (y = cl y) && decide (z = cl z))
/-- '==' on two vectors. -/
theorem equalIn_vec (a b c d e f : Int) (w : World) : (Op.equalIn 10000 32 (.agg #[.int .i64 (a), .int .i64 (b), .int .i64 (c)]) (.agg #[.int .i64 (d), .int .i64 (e), .int .i64 (f)])).run Tryd.prog w = .ok (decide (a = d) && (decide (b = e) && decide (c = f))) w := by
  have hS : Tryd.prog.underlying 32 = some (.struct (Tryd.prog.fieldsOf 32)) := by kernel_rfl
  have hp : Tryd.prog.stoodInHeld 32 = false := by kernel_rfl
  rw [show (10000 : Nat) = 9999 + 1 from rfl, run_equalIn_agg w 9999 32 _ _ hS hp]
  simp only [Program.fieldsOf, Tryd.underlying32]
  go_simp
  by_cases h1 : a = d <;> by_cases h2 : b = e <;> by_cases h3 : c = f <;> simp [h1, h2, h3]
theorem guard_vec : Tryd.prog.eqGuardType Tryd.prog.depth 32 = false := by kernel_rfl

set_option maxHeartbeats 2000000 in
theorem isValidVecI (x y z : Int) (w : World) :
    Calls Tryd.prog 44 #[.agg #[.int .i64 (x), .int .i64 (y), .int .i64 (z)]] w fun e w' => e = .returned (.bool (vb x y z)) ∧ Below w.heap.size w w' := by
  have hB := below1 w (.cells #[.int .i64 (x), .int .i64 (y), .int .i64 (z)] 32)
  have b0 := Blk.new w 32 #[.int .i64 (x), .int .i64 (y), .int .i64 (z)]
  have he := fun W => equalIn_vec x y z (cl x) (cl y) (cl z) W
  have hg := guard_vec
  go_enter Tryd.func44, Tryd.ntmps44
  go_wp2
  generalize w.alloc (.cells #[.int .i64 (x), .int .i64 (y), .int .i64 (z)] 32) = W0 at hB b0 ⊢
  have c0 := b0.cell
  have f0 := b0.frozen
  have l0 := b0.lt
  go_region_held3 (fun w' => (∀ i, w'.cell? ⟨w.heap.size, i, none⟩ = (#[.int .i64 (x), .int .i64 (y), .int .i64 (z)] : Array Value)[i]?)) (first | exact c0 | go_keep)
    (first | (go_at_call 59; refine (clamped_any _ _ _ _).mono ?_; rintro e w1 ⟨rfl, hb⟩; have hB := (by with_reducible first | exact b_keep hb hB | exact b_keep hb hB.drew); replace b0 : Blk w1 _ _ _ := (by with_reducible first | exact Blk.keep hb b0 | exact Blk.keep hb b0.drew); replace l0 := b0.lt; replace c0 := b0.cell; replace f0 := b0.frozen))
  go_wp2
  go_ret
  exact ⟨rfl, hB⟩
set_option maxHeartbeats 2000000 in
theorem isValidVecS (x y z : Int) (w : World) :
    Calls Tryd.prog 43 #[.agg #[.int .i64 (x), .int .i64 (y), .int .i64 (z)]] w fun e w' => e = .returned (.bool (vb x y z)) ∧ Below w.heap.size w w' := by
  have hB := below1 w (.cells #[.int .i64 (x), .int .i64 (y), .int .i64 (z)] 32)
  have b0 := Blk.new w 32 #[.int .i64 (x), .int .i64 (y), .int .i64 (z)]
  have he := fun W => equalIn_vec x y z (cl x) (cl y) (cl z) W
  have hg := guard_vec
  go_enter Tryd.func43, Tryd.ntmps43
  go_wp2
  generalize w.alloc (.cells #[.int .i64 (x), .int .i64 (y), .int .i64 (z)] 32) = W0 at hB b0 ⊢
  have c0 := b0.cell
  have f0 := b0.frozen
  have l0 := b0.lt
  go_region_held3 (fun w' => (∀ i, w'.cell? ⟨w.heap.size, i, none⟩ = (#[.int .i64 (x), .int .i64 (y), .int .i64 (z)] : Array Value)[i]?)) (first | exact c0 | go_keep)
    (first | (go_at_call 58; refine (l02V_any _ _ _ _).mono ?_; rintro e w1 ⟨rfl, hb⟩; have hB := (by with_reducible first | exact b_keep hb hB | exact b_keep hb hB.drew); replace b0 : Blk w1 _ _ _ := (by with_reducible first | exact Blk.keep hb b0 | exact Blk.keep hb b0.drew); replace l0 := b0.lt; replace c0 := b0.cell; replace f0 := b0.frozen))
  go_wp2
  go_ret
  exact ⟨rfl, hB⟩
end Go.Proofs.YthcoogljaagneaaDoor
