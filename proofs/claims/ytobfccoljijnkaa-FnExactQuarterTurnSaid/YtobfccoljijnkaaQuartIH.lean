/- Steps of the program's QuarterTurn. -/
import Derived.Test.YtobfccoljijnkaaQuart
import Derived.Test.YtobfccoljijnkaaQuartT
import Derived.Laws.Tables
import Derived.Laws.CopyOwn
import Derived.Deep.Cut
namespace Go.Proofs.Ytobfccoljijnkaa
open Go.RowKit

theorem stepquartI0 {m : Nat} (h : m ≤ 3) (w : World) :
    Calls Try.prog 78 #[.agg #[.int .i64 (16), .int .i64 (0), .int .i64 (0), .int .i64 (0), .int .i64 (0), .int .i64 (-16), .int .i64 (0), .int .i64 (16), .int .i64 (0)], .agg #[.int .i64 (mat q0m m 0), .int .i64 (mat q0m m 1), .int .i64 (mat q0m m 2), .int .i64 (mat q0m m 3), .int .i64 (mat q0m m 4), .int .i64 (mat q0m m 5), .int .i64 (mat q0m m 6), .int .i64 (mat q0m m 7), .int .i64 (mat q0m m 8)]] w fun e w' => e = .returned (.agg #[.int .i64 (mat q0m (m + 1) 0), .int .i64 (mat q0m (m + 1) 1), .int .i64 (mat q0m (m + 1) 2), .int .i64 (mat q0m (m + 1) 3), .int .i64 (mat q0m (m + 1) 4), .int .i64 (mat q0m (m + 1) 5), .int .i64 (mat q0m (m + 1) 6), .int .i64 (mat q0m (m + 1) 7), .int .i64 (mat q0m (m + 1) 8)]) ∧ Below w.heap.size w w' := by
  have h := after_any q0m (mat q0m m) q0_small (mat0_small h) w
  exact h
theorem stepquartI1 {m : Nat} (h : m ≤ 3) (w : World) :
    Calls Try.prog 78 #[.agg #[.int .i64 (0), .int .i64 (0), .int .i64 (16), .int .i64 (0), .int .i64 (16), .int .i64 (0), .int .i64 (-16), .int .i64 (0), .int .i64 (0)], .agg #[.int .i64 (mat q1m m 0), .int .i64 (mat q1m m 1), .int .i64 (mat q1m m 2), .int .i64 (mat q1m m 3), .int .i64 (mat q1m m 4), .int .i64 (mat q1m m 5), .int .i64 (mat q1m m 6), .int .i64 (mat q1m m 7), .int .i64 (mat q1m m 8)]] w fun e w' => e = .returned (.agg #[.int .i64 (mat q1m (m + 1) 0), .int .i64 (mat q1m (m + 1) 1), .int .i64 (mat q1m (m + 1) 2), .int .i64 (mat q1m (m + 1) 3), .int .i64 (mat q1m (m + 1) 4), .int .i64 (mat q1m (m + 1) 5), .int .i64 (mat q1m (m + 1) 6), .int .i64 (mat q1m (m + 1) 7), .int .i64 (mat q1m (m + 1) 8)]) ∧ Below w.heap.size w w' := by
  have h := after_any q1m (mat q1m m) q1_small (mat1_small h) w
  exact h
theorem stepquartI2 {m : Nat} (h : m ≤ 3) (w : World) :
    Calls Try.prog 78 #[.agg #[.int .i64 (0), .int .i64 (-16), .int .i64 (0), .int .i64 (16), .int .i64 (0), .int .i64 (0), .int .i64 (0), .int .i64 (0), .int .i64 (16)], .agg #[.int .i64 (mat q2m m 0), .int .i64 (mat q2m m 1), .int .i64 (mat q2m m 2), .int .i64 (mat q2m m 3), .int .i64 (mat q2m m 4), .int .i64 (mat q2m m 5), .int .i64 (mat q2m m 6), .int .i64 (mat q2m m 7), .int .i64 (mat q2m m 8)]] w fun e w' => e = .returned (.agg #[.int .i64 (mat q2m (m + 1) 0), .int .i64 (mat q2m (m + 1) 1), .int .i64 (mat q2m (m + 1) 2), .int .i64 (mat q2m (m + 1) 3), .int .i64 (mat q2m (m + 1) 4), .int .i64 (mat q2m (m + 1) 5), .int .i64 (mat q2m (m + 1) 6), .int .i64 (mat q2m (m + 1) 7), .int .i64 (mat q2m (m + 1) 8)]) ∧ Below w.heap.size w w' := by
  have h := after_any q2m (mat q2m m) q2_small (mat2_small h) w
  exact h
set_option maxHeartbeats 400000 in
theorem floorMod4 (n : Int) (h1 : -9223372036854775808 ≤ n) (h2 : n ≤ 9223372036854775807) (w : World) :
    Calls Try.prog 77 #[.int .i64 n, .int .i64 4] w fun e w' => e = .returned (.int .i64 (n % 4)) ∧ w = w' := by
  have hq : fdZ n 4 = n / 4 := fdZ_pos (by omega)
  have H := Lib.hid (floorI n 4 h1 h2)
  obtain ⟨z, hz⟩ : ∃ z, z = fdZ n 4 := ⟨_, rfl⟩
  rw [← hz] at H hq
  have h51 : -9223372036854775808 ≤ z * 4 := by omega
  have h52 : z * 4 ≤ 9223372036854775807 := by omega
  have H4 := Lib.hid (show n - z * 4 = n % 4 by omega)
  have h61 : -9223372036854775808 ≤ n - z * 4 := by omega
  have h62 : n - z * 4 ≤ 9223372036854775807 := by omega
  clear hq hz
  go_enter Try.func77, Try.ntmps77
  go_wp2_with (go_at_call 102; refine (H.out _).mono ?_; rintro e w' ⟨rfl, rfl⟩)
  go_ret
  exact ⟨ret_int H4.out, rfl⟩
end Go.Proofs.Ytobfccoljijnkaa
