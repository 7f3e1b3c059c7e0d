/- Contracts of the functions on plain ints: Clamp, FloorDiv, the tests of a range (the program's and the reference's). -/
import Derived.Test.YtadjnmldgnaabaaProg
import Derived.Test.YtadjnmldgnaabaaPlain
import Derived.WalkKit
import Derived.WalkSpells
import Derived.WalkLawsBesides
import Derived.IntWalk
namespace Go.Proofs.Ytadjnmldgnaabaa
open Go.RowKit

theorem ret_int {k : IntKind} {a b : Int} (h : a = b) : Ending.returned (.int k a) = .returned (.int k b) := by rw [h]
theorem ret_bool {a b : Bool} (h : a = b) : Ending.returned (.bool a) = .returned (.bool b) := by rw [h]

theorem fd_neg {a b : Int} (h1 : -9223372036854775808 ≤ a) (h2 : a ≤ 9223372036854775807) (hb : 1 ≤ b) (hm : a.tmod b < 0) : wrap64 (a.tdiv b - 1) = fdZ a b := by
  have h := ediv_bd hb (by omega) (by omega) h1 h2
  rw [tdiv_floor_neg hb hm, fdZ_pos hb]
  exact IntWalk.wrap64_in _ ⟨h.1, h.2⟩

set_option maxHeartbeats 400000 in
theorem clampI (n lo hi : Int) (w : World) :
    Calls Try.prog 34 #[.int .i64 n, .int .i64 lo, .int .i64 hi] w fun e w' => e = .returned (.int .i64 (clampZ n lo hi)) ∧ w = w' := by
  go_enter Try.func34, Try.ntmps34
  go_wp2
  all_goals
    go_ret
    exact ⟨ret_int (by unfold clampZ; omega), rfl⟩
set_option maxHeartbeats 400000 in
theorem within_any (n lo hi : Int) (w : World) :
    Calls Try.prog 22 #[.int .i64 n, .int .i64 lo, .int .i64 hi] w fun e w' => e = .returned (.bool (inB n lo hi)) ∧ w = w' := by
  go_enter Try.func22, Try.ntmps22
  go_wp2
  all_goals
    go_ret
    exact ⟨ret_bool (by unfold inB; simp; omega), rfl⟩
set_option maxHeartbeats 400000 in
theorem l01In_any (n lo hi : Int) (w : World) :
    Calls Try.prog 25 #[.int .i64 n, .int .i64 lo, .int .i64 hi] w fun e w' => e = .returned (.bool (inB n lo hi)) ∧ w = w' := by
  go_enter Try.func25, Try.ntmps25
  go_wp2
  all_goals
    go_ret
    exact ⟨ret_bool (by unfold inB; simp; omega), rfl⟩
set_option maxHeartbeats 400000 in
theorem floorI (a b : Int) (h1 : -9223372036854775808 ≤ a) (h2 : a ≤ 9223372036854775807) (w : World) :
    Calls Try.prog 39 #[.int .i64 a, .int .i64 b] w fun e w' => e = .returned (.int .i64 (fdZ a b)) ∧ w = w' := by
  rcases Int.lt_or_le b 1 with hb | hb
  · go_enter Try.func39, Try.ntmps39
    go_wp2
    go_ret
    exact ⟨ret_int (fdZ_small hb).symm, rfl⟩
  · rcases Int.lt_or_le (a.tmod b) 0 with hm | hm
    · go_enter Try.func39, Try.ntmps39
      go_wp2
      go_ret
      exact ⟨ret_int (fd_neg h1 h2 hb hm), rfl⟩
    · go_enter Try.func39, Try.ntmps39
      go_wp2
      go_ret
      exact ⟨ret_int ((tdiv_floor_nonneg hb hm).trans (fdZ_pos hb).symm), rfl⟩
end Go.Proofs.Ytadjnmldgnaabaa
