/- Contracts of the functions on vectors, continued: Add, Dot, IsValidVec, of the program and of the reference. -/
import Derived.Test.YtadjnmldgnaabaaVec2
namespace Go.Proofs.Ytadjnmldgnaabaa
open Go.RowKit

/-- Is each component a coordinate? -/
def vb (x y z : Int) : Bool := decide (x = cl x) && (decide (y = cl y) && decide (z = cl z))
/-- '==' on two vectors. -/
theorem equalIn_vec (a b c d e f : Int) (w : World) : (Op.equalIn 10000 33 (.agg #[.int .i64 (a), .int .i64 (b), .int .i64 (c)]) (.agg #[.int .i64 (d), .int .i64 (e), .int .i64 (f)])).run Try.prog w = .ok (decide (a = d) && (decide (b = e) && decide (c = f))) w := by
  have hS : Try.prog.underlying 33 = some (.struct (Try.prog.fieldsOf 33)) := by kernel_rfl
  have hp : Try.prog.stoodInHeld 33 = false := by kernel_rfl
  rw [show (10000 : Nat) = 9999 + 1 from rfl, run_equalIn_agg w 9999 33 _ _ hS hp]
  simp only [Program.fieldsOf, Try.underlying33]
  go_simp
  by_cases h1 : a = d <;> by_cases h2 : b = e <;> by_cases h3 : c = f <;> simp [h1, h2, h3]
theorem guard_vec : Try.prog.eqGuardType Try.prog.depth 33 = false := by kernel_rfl

end Go.Proofs.Ytadjnmldgnaabaa
