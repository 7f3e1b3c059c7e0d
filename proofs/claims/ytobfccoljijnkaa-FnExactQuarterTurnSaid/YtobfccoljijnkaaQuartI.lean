/- The program's QuarterTurn. -/
import Derived.Test.YtobfccoljijnkaaQuartI0
import Derived.Test.YtobfccoljijnkaaQuartI1
import Derived.Test.YtobfccoljijnkaaQuartI2
import Derived.Test.YtobfccoljijnkaaQuartIx
namespace Go.Proofs.Ytobfccoljijnkaa
open Go.RowKit

theorem quartI (axis k : Int) (h1 : -9223372036854775808 ≤ k) (h2 : k ≤ 9223372036854775807) (w : World) :
    Calls Try.prog 33 #[.int .i64 axis, .int .i64 k] w fun e w' => e = .returned (.agg #[.int .i64 (qt axis k 0), .int .i64 (qt axis k 1), .int .i64 (qt axis k 2), .int .i64 (qt axis k 3), .int .i64 (qt axis k 4), .int .i64 (qt axis k 5), .int .i64 (qt axis k 6), .int .i64 (qt axis k 7), .int .i64 (qt axis k 8), .int .i64 (0), .int .i64 (0), .int .i64 (0)]) ∧ Below w.heap.size w w' := by
  by_cases e0 : axis = 0
  · subst e0
    exact quartI0 k h1 h2 w
  · by_cases e1 : axis = 1
    · subst e1
      exact quartI1 k h1 h2 w
    · by_cases e2 : axis = 2
      · subst e2
        exact quartI2 k h1 h2 w
      · have h := quartIx axis (by unfold inB; simp; omega) k w
        have e : qt axis k = idm := by unfold qt; rw [if_neg e0, if_neg e1, if_neg e2]
        rw [e]
        exact h
end Go.Proofs.Ytobfccoljijnkaa
