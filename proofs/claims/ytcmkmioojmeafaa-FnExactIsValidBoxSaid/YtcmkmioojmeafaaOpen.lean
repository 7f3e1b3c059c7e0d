/- The arguments of the laws that are structs of ints, taken apart. -/
import Derived.Test.YtcmkmioojmeafaaBase
namespace Go.Proofs.Ytcmkmioojmeafaa
open Go.ChangeShapes Go.WideShapes Go.ChangeAt Go.RowKit

theorem open_vec {W : World} {base : Nat} {v : Value} (hv : Value.okWide Try.prog W .any base 35 v) :
    ∃ x y z : Int, v = .agg #[.int .i64 x, .int .i64 y, .int .i64 z] ∧ (-9223372036854775808 ≤ x ∧ x ≤ 9223372036854775807) ∧ (-9223372036854775808 ≤ y ∧ y ≤ 9223372036854775807) ∧ (-9223372036854775808 ≤ z ∧ z ≤ 9223372036854775807) := by
  obtain ⟨xs, hl, rfl, hb⟩ := Fr.open_all_ints (n := 3) Try.underlying3 (Or.inl ⟨_, Try.underlying35⟩) (by kernel_rfl) (by kernel_rfl) hv
  obtain ⟨x, y, z, rfl⟩ := Fr.list3 hl
  exact ⟨x, y, z, rfl, hb x (by simp), hb y (by simp), hb z (by simp)⟩
theorem open_subpatch {W : World} {base : Nat} {v : Value} (hv : Value.okWide Try.prog W .any base 27 v) :
    ∃ x y z : Int, v = .agg #[.int .i64 x, .int .i64 y, .int .i64 z] ∧ (-9223372036854775808 ≤ x ∧ x ≤ 9223372036854775807) ∧ (-9223372036854775808 ≤ y ∧ y ≤ 9223372036854775807) ∧ (-9223372036854775808 ≤ z ∧ z ≤ 9223372036854775807) := by
  obtain ⟨xs, hl, rfl, hb⟩ := Fr.open_all_ints (n := 3) Try.underlying3 (Or.inl ⟨_, Try.underlying27⟩) (by kernel_rfl) (by kernel_rfl) hv
  obtain ⟨x, y, z, rfl⟩ := Fr.list3 hl
  exact ⟨x, y, z, rfl, hb x (by simp), hb y (by simp), hb z (by simp)⟩
theorem open_box {W : World} {base : Nat} {v : Value} (hv : Value.okWide Try.prog W .any base 37 v) :
    ∃ a b c d e f : Int, v = .agg #[.int .i64 a, .int .i64 b, .int .i64 c, .int .i64 d, .int .i64 e, .int .i64 f] := by
  obtain ⟨xs, hl, rfl, hb⟩ := Fr.open_all_ints (n := 6) Try.underlying3 (Or.inl ⟨_, Try.underlying37⟩) (by kernel_rfl) (by kernel_rfl) hv
  obtain ⟨a, b, c, d, e, f, rfl⟩ := Fr.list6 hl
  exact ⟨a, b, c, d, e, f, rfl⟩
end Go.Proofs.Ytcmkmioojmeafaa
