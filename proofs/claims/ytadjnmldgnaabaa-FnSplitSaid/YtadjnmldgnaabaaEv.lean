/- EvalPatch, of the program and of the reference. -/
import Derived.Test.YtadjnmldgnaabaaVec6
namespace Go.Proofs.Ytadjnmldgnaabaa
open Go.RowKit

/-- The four corners' coordinates, weighed. -/
def evW (a b d e a0 a1 a2 a3 m : Int) : Int := fdZ (a0 * cl a + a1 * cl b + a2 * cl d + a3 * cl e) m
def okE (i j n : Int) : Bool := inB n 1 64 && (inB i 0 n && inB j 0 n)
def evF (a b d e i j n : Int) : Int := if okE i j n then evW a b d e ((n - i) * (n - j)) (i * (n - j)) ((n - i) * j) (i * j) (n * n) else cl a
theorem evF_yes {i j n : Int} (h1 : inB n 1 64 = true) (h2 : inB i 0 n = true) (h3 : inB j 0 n = true) (a b d e : Int) : evF a b d e i j n = evW a b d e ((n - i) * (n - j)) (i * (n - j)) ((n - i) * j) (i * j) (n * n) := by
  unfold evF okE; rw [h1, h2, h3]; rfl
theorem evF_no1 {i j n : Int} (h1 : inB n 1 64 = false) (a b d e : Int) : evF a b d e i j n = cl a := by unfold evF okE; rw [h1]; rfl
theorem evF_no2 {i j n : Int} (h1 : inB n 1 64 = true) (h2 : inB i 0 n = false) (a b d e : Int) : evF a b d e i j n = cl a := by unfold evF okE; rw [h1, h2]; rfl
theorem evF_no3 {i j n : Int} (h1 : inB n 1 64 = true) (h2 : inB i 0 n = true) (h3 : inB j 0 n = false) (a b d e : Int) : evF a b d e i j n = cl a := by unfold evF okE; rw [h1, h2, h3]; rfl
theorem mul3 (a b c : Int) : a * b * c = (b * c) * a := by rw [Int.mul_assoc, Int.mul_comm]
theorem evW_spec (a b d e i j n : Int) : fdZ (cl a * (n - i) * (n - j) + cl b * i * (n - j) + cl d * (n - i) * j + cl e * i * j) (n * n) = evW a b d e ((n - i) * (n - j)) (i * (n - j)) ((n - i) * j) (i * j) (n * n) := by
  unfold evW; rw [mul3 (cl a), mul3 (cl b), mul3 (cl d), mul3 (cl e)]
theorem wt_bd {x y : Int} (h1 : 0 ≤ x) (h2 : x ≤ 64) (h3 : 0 ≤ y) (h4 : y ≤ 64) : 0 ≤ x * y ∧ x * y ≤ 4096 :=
  ⟨Int.mul_nonneg h1 h3, by have := Int.mul_le_mul h2 h4 h3 (by omega : (0 : Int) ≤ 64); omega⟩
theorem sq_bd {n : Int} (h1 : 1 ≤ n) (h2 : n ≤ 64) : 1 ≤ n * n ∧ n * n ≤ 4096 :=
  ⟨by have := Int.mul_pos (show 0 < n by omega) (show 0 < n by omega); omega, (wt_bd (by omega) h2 (by omega) h2).2⟩
theorem cl_mulw (a : Int) {b : Int} (h3 : 0 ≤ b) (h4 : b ≤ 4096) : -4096000000 ≤ b * cl a ∧ b * cl a ≤ 4096000000 := by
  have := cl_mul2 a (b := b) (by omega) h4
  rw [Int.mul_comm]; exact this
theorem mul_bd4 {x y : Int} (h1 : -4096000000 ≤ x) (h2 : x ≤ 4096000000) (h3 : 0 ≤ y) (h4 : y ≤ 64) : -262144000000 ≤ x * y ∧ x * y ≤ 262144000000 := by
  constructor
  · have h5 := Int.mul_le_mul_of_nonneg_right h1 h3
    have h6 : -4096000000 * y ≥ -4096000000 * 64 := by omega
    omega
  · have h5 := Int.mul_le_mul_of_nonneg_right h2 h3
    omega

end Go.Proofs.Ytadjnmldgnaabaa
