/- Contracts of the functions on vectors, continued: Add, Dot, IsValidVec, of the program and of the reference. -/
import Derived.Test.YtjlenblggngdcaaVec2
namespace Go.Proofs.Ytjlenblggngdcaa
open Go.RowKit

/-- Is each component a coordinate? -/
def vb (x y z : Int) : Bool := decide (x = cl x) && (decide (y = cl y) && decide (z = cl z))
/-- '==' on two vectors. -/
theorem equalIn_vec (a b c d e f : Int) (w : World) : (Op.equalIn 10000 24 (.agg #[.int .i64 (a), .int .i64 (b), .int .i64 (c)]) (.agg #[.int .i64 (d), .int .i64 (e), .int .i64 (f)])).run Try.prog w = .ok (decide (a = d) && (decide (b = e) && decide (c = f))) w := by
  have hS : Try.prog.underlying 24 = some (.struct (Try.prog.fieldsOf 24)) := by kernel_rfl
  have hp : Try.prog.stoodInHeld 24 = false := by kernel_rfl
  rw [show (10000 : Nat) = 9999 + 1 from rfl, run_equalIn_agg w 9999 24 _ _ hS hp]
  simp only [Program.fieldsOf, Try.underlying24]
  go_simp
  by_cases h1 : a = d <;> by_cases h2 : b = e <;> by_cases h3 : c = f <;> simp [h1, h2, h3]
theorem guard_vec : Try.prog.eqGuardType Try.prog.depth 24 = false := by kernel_rfl

set_option maxHeartbeats 2000000 in
theorem isValidVecI (x y z : Int) (w : World) :
    Calls Try.prog 64 #[.agg #[.int .i64 (x), .int .i64 (y), .int .i64 (z)]] w fun e w' => e = .returned (.bool (vb x y z)) ∧ Below w.heap.size w w' := by
  have hB := below1 w (.cells #[.int .i64 (x), .int .i64 (y), .int .i64 (z)] 24)
  have b0 := Blk.new w 24 #[.int .i64 (x), .int .i64 (y), .int .i64 (z)]
  have he := fun W => equalIn_vec x y z (cl x) (cl y) (cl z) W
  have hg := guard_vec
  go_enter Try.func64, Try.ntmps64
  go_wp2
  generalize w.alloc (.cells #[.int .i64 (x), .int .i64 (y), .int .i64 (z)] 24) = W0 at hB b0 ⊢
  have c0 := b0.cell
  have f0 := b0.frozen
  have l0 := b0.lt
  go_region_held3 (fun w' => (∀ i, w'.cell? ⟨w.heap.size, i, none⟩ = (#[.int .i64 (x), .int .i64 (y), .int .i64 (z)] : Array Value)[i]?)) (first | exact c0 | go_keep)
    (first | (go_at_call 49; refine (clamped_any _ _ _ _).mono ?_; rintro e w1 ⟨rfl, hb⟩; have hB := (by with_reducible first | exact b_keep hb hB | exact b_keep hb hB.drew); replace b0 : Blk w1 _ _ _ := (by with_reducible first | exact Blk.keep hb b0 | exact Blk.keep hb b0.drew); replace l0 := b0.lt; replace c0 := b0.cell; replace f0 := b0.frozen))
  go_wp2
  go_ret
  exact ⟨rfl, hB⟩
set_option maxHeartbeats 2000000 in
theorem isValidVecS (x y z : Int) (w : World) :
    Calls Try.prog 62 #[.agg #[.int .i64 (x), .int .i64 (y), .int .i64 (z)]] w fun e w' => e = .returned (.bool (vb x y z)) ∧ Below w.heap.size w w' := by
  have hB := below1 w (.cells #[.int .i64 (x), .int .i64 (y), .int .i64 (z)] 24)
  have b0 := Blk.new w 24 #[.int .i64 (x), .int .i64 (y), .int .i64 (z)]
  have he := fun W => equalIn_vec x y z (cl x) (cl y) (cl z) W
  have hg := guard_vec
  go_enter Try.func62, Try.ntmps62
  go_wp2
  generalize w.alloc (.cells #[.int .i64 (x), .int .i64 (y), .int .i64 (z)] 24) = W0 at hB b0 ⊢
  have c0 := b0.cell
  have f0 := b0.frozen
  have l0 := b0.lt
  go_region_held3 (fun w' => (∀ i, w'.cell? ⟨w.heap.size, i, none⟩ = (#[.int .i64 (x), .int .i64 (y), .int .i64 (z)] : Array Value)[i]?)) (first | exact c0 | go_keep)
    (first | (go_at_call 48; refine (l02V_any _ _ _ _).mono ?_; rintro e w1 ⟨rfl, hb⟩; have hB := (by with_reducible first | exact b_keep hb hB | exact b_keep hb hB.drew); replace b0 : Blk w1 _ _ _ := (by with_reducible first | exact Blk.keep hb b0 | exact Blk.keep hb b0.drew); replace l0 := b0.lt; replace c0 := b0.cell; replace f0 := b0.frozen))
  go_wp2
  go_ret
  exact ⟨rfl, hB⟩
end Go.Proofs.Ytjlenblggngdcaa
