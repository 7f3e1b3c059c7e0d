/- Dot, of the program and of the reference. -/
import Derived.Test.YtadjnmldgnaabaaVecW
import Derived.Deep.DeepCutAuto
namespace Go.Proofs.Ytadjnmldgnaabaa
open Go.RowKit

/-- A product of two coordinates. -/
theorem mul_bd {a b : Int} (h1 : -1000000 ≤ a) (h2 : a ≤ 1000000) (h3 : -1000000 ≤ b) (h4 : b ≤ 1000000) : -1000000000000 ≤ a * b ∧ a * b ≤ 1000000000000 := by
  have e1 : (a + 1000000) * (b + 1000000) = a * b + 1000000 * a + 1000000 * b + 1000000000000 := by rw [Int.add_mul, Int.mul_add, Int.mul_add]; omega
  have e2 : (1000000 - a) * (b + 1000000) = 1000000 * b + 1000000000000 - a * b - 1000000 * a := by rw [Int.sub_mul, Int.mul_add, Int.mul_add]; omega
  have e3 : (a + 1000000) * (1000000 - b) = 1000000 * a - a * b + 1000000000000 - 1000000 * b := by rw [Int.add_mul, Int.mul_sub, Int.mul_sub]; omega
  have e4 : (1000000 - a) * (1000000 - b) = 1000000000000 - 1000000 * b - 1000000 * a + a * b := by rw [Int.sub_mul, Int.mul_sub, Int.mul_sub]; omega
  have p1 : 0 ≤ (a + 1000000) * (b + 1000000) := Int.mul_nonneg (by omega) (by omega)
  have p2 : 0 ≤ (1000000 - a) * (b + 1000000) := Int.mul_nonneg (by omega) (by omega)
  have p3 : 0 ≤ (a + 1000000) * (1000000 - b) := Int.mul_nonneg (by omega) (by omega)
  have p4 : 0 ≤ (1000000 - a) * (1000000 - b) := Int.mul_nonneg (by omega) (by omega)
  constructor <;> omega
theorem cl_mul (a b : Int) : -1000000000000 ≤ cl a * cl b ∧ cl a * cl b ≤ 1000000000000 := mul_bd (cl_bd a).1 (cl_bd a).2 (cl_bd b).1 (cl_bd b).2
def dotZ (x y z x1 y1 z1 : Int) : Int := cl x * cl x1 + cl y * cl y1 + cl z * cl z1

end Go.Proofs.Ytadjnmldgnaabaa
