/- Scale, Lerp, of the program and of the reference. -/
import Derived.Test.YtadjnmldgnaabaaVecS
import Derived.Test.YtadjnmldgnaabaaDot
import Derived.Deep.DeepCutAuto
namespace Go.Proofs.Ytadjnmldgnaabaa
open Go.RowKit

theorem wrapB {e : Int} (h1 : -9000000000000000000 ≤ e) (h2 : e ≤ 9000000000000000000) : IntKind.i64.wrap e = e := by
  rw [IntKind.wrap_i64]; omega
theorem mul_bd2 {a b : Int} (h1 : -1000000 ≤ a) (h2 : a ≤ 1000000) (h3 : -4096 ≤ b) (h4 : b ≤ 4096) : -4096000000 ≤ a * b ∧ a * b ≤ 4096000000 := by
  have e1 : (a + 1000000) * (b + 4096) = a * b + 4096 * a + 1000000 * b + 4096000000 := by rw [Int.add_mul, Int.mul_add, Int.mul_add]; omega
  have e2 : (1000000 - a) * (b + 4096) = 1000000 * b + 4096000000 - a * b - 4096 * a := by rw [Int.sub_mul, Int.mul_add, Int.mul_add]; omega
  have e3 : (a + 1000000) * (4096 - b) = 4096 * a - a * b + 4096000000 - 1000000 * b := by rw [Int.add_mul, Int.mul_sub, Int.mul_sub]; omega
  have e4 : (1000000 - a) * (4096 - b) = 4096000000 - 1000000 * b - 4096 * a + a * b := by rw [Int.sub_mul, Int.mul_sub, Int.mul_sub]; omega
  have p1 : 0 ≤ (a + 1000000) * (b + 4096) := Int.mul_nonneg (by omega) (by omega)
  have p2 : 0 ≤ (1000000 - a) * (b + 4096) := Int.mul_nonneg (by omega) (by omega)
  have p3 : 0 ≤ (a + 1000000) * (4096 - b) := Int.mul_nonneg (by omega) (by omega)
  have p4 : 0 ≤ (1000000 - a) * (4096 - b) := Int.mul_nonneg (by omega) (by omega)
  constructor <;> omega
theorem cl_mul2 (a : Int) {b : Int} (h3 : -4096 ≤ b) (h4 : b ≤ 4096) : -4096000000 ≤ cl a * b ∧ cl a * b ≤ 4096000000 := mul_bd2 (cl_bd a).1 (cl_bd a).2 h3 h4

/-- Are the factors of Scale in range? -/
def okS (i n : Int) : Bool := inB n 1 4096 && inB i (-4096) 4096
def scZ (a i n : Int) : Int := if okS i n then cl (fdZ (cl a * i) n) else cl a

end Go.Proofs.Ytadjnmldgnaabaa
