/- Plain arithmetic of the program's first layers: limiting, rounded division, ranges. No program in sight. -/
namespace Go.Proofs.Ytadjnmldgnaabaa

/-- Limited to a range; the lower limit wins. -/
def clampZ (n lo hi : Int) : Int := max lo (min n hi)
/-- Limited to the range of coordinates. -/
def cl (n : Int) : Int := clampZ n (-1000000) 1000000
theorem cl_bd (n : Int) : -1000000 ≤ cl n ∧ cl n ≤ 1000000 := by unfold cl clampZ; omega
theorem cl_id {n : Int} (h1 : -1000000 ≤ n) (h2 : n ≤ 1000000) : cl n = n := by unfold cl clampZ; omega
theorem cl_iff (n : Int) : cl n = n ↔ -1000000 ≤ n ∧ n ≤ 1000000 := by unfold cl clampZ; omega

/-- Rounded down; 0 where the divisor is below 1. -/
def fdZ (a b : Int) : Int := if b < 1 then 0 else a / b
theorem fdZ_small {a b : Int} (h : b < 1) : fdZ a b = 0 := by unfold fdZ; rw [if_pos h]
theorem fdZ_pos {a b : Int} (h : 1 ≤ b) : fdZ a b = a / b := by unfold fdZ; rw [if_neg (by omega)]

theorem tdiv_floor_neg {a b : Int} (hb : 1 ≤ b) (h : a.tmod b < 0) : a.tdiv b - 1 = a / b := by
  have h1 := Int.mul_tdiv_add_tmod a b
  have h2 : -b < a.tmod b := by
    have := Int.lt_tmod_of_pos a (b := b) (by omega)
    omega
  refine ((Int.ediv_eq_iff_of_pos (by omega)).2 ⟨?_, ?_⟩).symm
  · have : (a.tdiv b - 1) * b = b * a.tdiv b - b := by rw [Int.sub_mul, Int.mul_comm]; omega
    omega
  · have : (a.tdiv b - 1) * b = b * a.tdiv b - b := by rw [Int.sub_mul, Int.mul_comm]; omega
    omega
theorem tdiv_floor_nonneg {a b : Int} (hb : 1 ≤ b) (h : 0 ≤ a.tmod b) : a.tdiv b = a / b := by
  have h1 := Int.mul_tdiv_add_tmod a b
  have h2 : a.tmod b < b := Int.tmod_lt_of_pos a (by omega)
  refine ((Int.ediv_eq_iff_of_pos (by omega)).2 ⟨?_, ?_⟩).symm
  · have : a.tdiv b * b = b * a.tdiv b := Int.mul_comm _ _
    omega
  · have : a.tdiv b * b = b * a.tdiv b := Int.mul_comm _ _
    omega

theorem ediv_bd {a b M N : Int} (hb : 1 ≤ b) (hM : M ≤ 0) (hN : 0 ≤ N) (h1 : M ≤ a) (h2 : a ≤ N) : M ≤ a / b ∧ a / b ≤ N := by
  constructor
  · rw [Int.le_ediv_iff_mul_le (by omega)]
    have := Int.mul_le_mul_of_nonpos_left hM hb
    omega
  · have h3 : a / b ≤ N / b := Int.ediv_le_ediv (by omega) h2
    have h4 : N / b ≤ N := Int.ediv_le_self _ hN
    omega

/-- From lo to hi. -/
def inB (n lo hi : Int) : Bool := decide (lo ≤ n) && decide (n ≤ hi)
theorem inB_iff {n lo hi : Int} : inB n lo hi = true ↔ lo ≤ n ∧ n ≤ hi := by unfold inB; simp
theorem inB_not {n lo hi : Int} (h : inB n lo hi = false) : n < lo ∨ hi < n := by
  unfold inB at h; simp at h; omega

end Go.Proofs.Ytadjnmldgnaabaa
