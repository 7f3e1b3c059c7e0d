/- The arguments of the laws that are structs of ints, taken apart. -/
import Derived.Test.YtobfccoljijnkaaBase
namespace Go.Proofs.Ytobfccoljijnkaa
open Go.ChangeShapes Go.WideShapes Go.ChangeAt Go.RowKit

set_option maxRecDepth 100000 in
theorem open_vec {W : World} {base : Nat} {v : Value} (hv : Value.okWide Try.prog W .any base 23 v) :
    ∃ x y z : Int, v = .agg #[.int .i64 x, .int .i64 y, .int .i64 z] ∧ (-9223372036854775808 ≤ x ∧ x ≤ 9223372036854775807) ∧ (-9223372036854775808 ≤ y ∧ y ≤ 9223372036854775807) ∧ (-9223372036854775808 ≤ z ∧ z ≤ 9223372036854775807) := by
  obtain ⟨xs, hl, rfl, hb⟩ := Fr.open_all_ints (n := 3) Try.underlying3 (Or.inl ⟨_, Try.underlying23⟩) (by kernel_rfl) (by kernel_rfl) hv
  obtain ⟨x, y, z, rfl⟩ := Fr.list3 hl
  exact ⟨x, y, z, rfl, hb x (by simp), hb y (by simp), hb z (by simp)⟩
set_option maxRecDepth 100000 in
theorem open_subpatch {W : World} {base : Nat} {v : Value} (hv : Value.okWide Try.prog W .any base 36 v) :
    ∃ x y z : Int, v = .agg #[.int .i64 x, .int .i64 y, .int .i64 z] ∧ (-9223372036854775808 ≤ x ∧ x ≤ 9223372036854775807) ∧ (-9223372036854775808 ≤ y ∧ y ≤ 9223372036854775807) ∧ (-9223372036854775808 ≤ z ∧ z ≤ 9223372036854775807) := by
  obtain ⟨xs, hl, rfl, hb⟩ := Fr.open_all_ints (n := 3) Try.underlying3 (Or.inl ⟨_, Try.underlying36⟩) (by kernel_rfl) (by kernel_rfl) hv
  obtain ⟨x, y, z, rfl⟩ := Fr.list3 hl
  exact ⟨x, y, z, rfl, hb x (by simp), hb y (by simp), hb z (by simp)⟩
set_option maxRecDepth 100000 in
theorem open_box {W : World} {base : Nat} {v : Value} (hv : Value.okWide Try.prog W .any base 25 v) :
    ∃ a b c d e f : Int, v = .agg #[.int .i64 a, .int .i64 b, .int .i64 c, .int .i64 d, .int .i64 e, .int .i64 f] := by
  obtain ⟨xs, hl, rfl, hb⟩ := Fr.open_all_ints (n := 6) Try.underlying3 (Or.inl ⟨_, Try.underlying25⟩) (by kernel_rfl) (by kernel_rfl) hv
  obtain ⟨a, b, c, d, e, f, rfl⟩ := Fr.list6 hl
  exact ⟨a, b, c, d, e, f, rfl⟩
set_option maxRecDepth 100000 in
theorem open_patch {W : World} {base : Nat} {v : Value} (hv : Value.okWide Try.prog W .any base 46 v) :
    ∃ a b c d e f g h i j k l : Int, v = .agg #[.int .i64 (a), .int .i64 (b), .int .i64 (c), .int .i64 (d), .int .i64 (e), .int .i64 (f), .int .i64 (g), .int .i64 (h), .int .i64 (i), .int .i64 (j), .int .i64 (k), .int .i64 (l)] := by
  obtain ⟨xs, hl, rfl, hb⟩ := Fr.open_all_ints (n := 12) Try.underlying3 (Or.inl ⟨_, Try.underlying46⟩) (by kernel_rfl) (by kernel_rfl) hv
  obtain ⟨a, b, c, d, e, f, g, h, i, j, k, l, rfl⟩ := Fr.list12 hl
  exact ⟨a, b, c, d, e, f, g, h, i, j, k, l, rfl⟩
end Go.Proofs.Ytobfccoljijnkaa
