/- Contracts of the functions on plain ints: Clamp, FloorDiv, the tests of a range (the program's and the reference's). -/
import Derived.Test.YthcoogljaagneaaProg
import Derived.Test.YthcoogljaagneaaPlain
import Derived.WalkKit
import Derived.WalkSpells
import Derived.WalkLawsBesides
import Derived.IntWalk
namespace Go.Proofs.Ythcoogljaagneaa
open Go.RowKit

theorem ret_int {k : IntKind} {a b : Int} (h : a = b) : Ending.returned (.int k a) = .returned (.int k b) := by rw [h]
theorem ret_bool {a b : Bool} (h : a = b) : Ending.returned (.bool a) = .returned (.bool b) := by rw [h]

theorem fd_neg {a b : Int} (h1 : -9223372036854775808 ≤ a) (h2 : a ≤ 9223372036854775807) (hb : 1 ≤ b) (hm : a.tmod b < 0) : wrap64 (a.tdiv b - 1) = fdZ a b := by
  have h := ediv_bd hb (by omega) (by omega) h1 h2
  rw [tdiv_floor_neg hb hm, fdZ_pos hb]
  exact IntWalk.wrap64_in _ ⟨h.1, h.2⟩

end Go.Proofs.Ythcoogljaagneaa
