/- The arguments of the laws that are structs of ints, taken apart. -/
import Derived.Test.YtadjnmldgnaabaaBase
namespace Go.Proofs.Ytadjnmldgnaabaa
open Go.ChangeShapes Go.WideShapes Go.ChangeAt Go.RowKit

set_option maxRecDepth 100000 in
theorem open_subpatch {W : World} {base : Nat} {v : Value} (hv : Value.okWide Try.prog W .any base 23 v) :
    ∃ x y z : Int, v = .agg #[.int .i64 x, .int .i64 y, .int .i64 z] ∧ (-9223372036854775808 ≤ x ∧ x ≤ 9223372036854775807) ∧ (-9223372036854775808 ≤ y ∧ y ≤ 9223372036854775807) ∧ (-9223372036854775808 ≤ z ∧ z ≤ 9223372036854775807) := by
  obtain ⟨xs, hl, rfl, hb⟩ := Fr.open_all_ints (n := 3) Try.underlying3 (Or.inl ⟨_, Try.underlying23⟩) (by kernel_rfl) (by kernel_rfl) hv
  obtain ⟨x, y, z, rfl⟩ := Fr.list3 hl
  exact ⟨x, y, z, rfl, hb x (by simp), hb y (by simp), hb z (by simp)⟩
end Go.Proofs.Ytadjnmldgnaabaa
