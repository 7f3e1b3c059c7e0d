/- The powers of a quarter turn about an axis. -/
import Derived.Test.YtobfccoljijnkaaQuart
import Derived.Test.YtobfccoljijnkaaIdent4
namespace Go.Proofs.Ytobfccoljijnkaa
open Go.RowKit

theorem Blk.set9 {w : World} {g' : Nat} {t : TypeId} {c0 c1 c2 c3 c4 c5 c6 c7 c8 c9 c10 c11 : Value} (h : Blk w g' t #[c0, c1, c2, c3, c4, c5, c6, c7, c8, c9, c10, c11]) (a0 a1 a2 a3 a4 a5 a6 a7 a8 : Value) :
    Blk (((((((((w.setCell ⟨g', 0, none⟩ a0).setCell ⟨g', 1, none⟩ a1).setCell ⟨g', 2, none⟩ a2).setCell ⟨g', 3, none⟩ a3).setCell ⟨g', 4, none⟩ a4).setCell ⟨g', 5, none⟩ a5).setCell ⟨g', 6, none⟩ a6).setCell ⟨g', 7, none⟩ a7).setCell ⟨g', 8, none⟩ a8) g' t #[a0, a1, a2, a3, a4, a5, a6, a7, a8, c9, c10, c11] := by
  have h' := (((((((((h.set_ 0 a0).set_ 1 a1).set_ 2 a2).set_ 3 a3).set_ 4 a4).set_ 5 a5).set_ 6 a6).set_ 7 a7).set_ 8 a8)
  simp only [List.setIfInBounds_toArray, List.set_cons_succ, List.set_cons_zero] at h'
  exact h'
theorem Blk.far9 {w : World} {g : Nat} {t : TypeId} {cs : Array Value} (h : Blk w g t cs) {g' : Nat} (hp : g ≠ g') (a0 a1 a2 a3 a4 a5 a6 a7 a8 : Value) :
    Blk (((((((((w.setCell ⟨g', 0, none⟩ a0).setCell ⟨g', 1, none⟩ a1).setCell ⟨g', 2, none⟩ a2).setCell ⟨g', 3, none⟩ a3).setCell ⟨g', 4, none⟩ a4).setCell ⟨g', 5, none⟩ a5).setCell ⟨g', 6, none⟩ a6).setCell ⟨g', 7, none⟩ a7).setCell ⟨g', 8, none⟩ a8) g t cs := (((((((((h.far (p := ⟨g', 0, none⟩) hp a0).far (p := ⟨g', 1, none⟩) hp a1).far (p := ⟨g', 2, none⟩) hp a2).far (p := ⟨g', 3, none⟩) hp a3).far (p := ⟨g', 4, none⟩) hp a4).far (p := ⟨g', 5, none⟩) hp a5).far (p := ⟨g', 6, none⟩) hp a6).far (p := ⟨g', 7, none⟩) hp a7).far (p := ⟨g', 8, none⟩) hp a8)
theorem below_set9 {w : World} {B : Nat} {w0 : World} (h : Below B w0 w) {g' : Nat} (hp : B ≤ g') (a0 a1 a2 a3 a4 a5 a6 a7 a8 : Value) :
    Below B w0 (((((((((w.setCell ⟨g', 0, none⟩ a0).setCell ⟨g', 1, none⟩ a1).setCell ⟨g', 2, none⟩ a2).setCell ⟨g', 3, none⟩ a3).setCell ⟨g', 4, none⟩ a4).setCell ⟨g', 5, none⟩ a5).setCell ⟨g', 6, none⟩ a6).setCell ⟨g', 7, none⟩ a7).setCell ⟨g', 8, none⟩ a8) := (((((((((h.setCell (p := ⟨g', 0, none⟩) hp a0).setCell (p := ⟨g', 1, none⟩) hp a1).setCell (p := ⟨g', 2, none⟩) hp a2).setCell (p := ⟨g', 3, none⟩) hp a3).setCell (p := ⟨g', 4, none⟩) hp a4).setCell (p := ⟨g', 5, none⟩) hp a5).setCell (p := ⟨g', 6, none⟩) hp a6).setCell (p := ⟨g', 7, none⟩) hp a7).setCell (p := ⟨g', 8, none⟩) hp a8)
/-- The identity's nine. -/
def idm : Nat → Int := fun | 0 => 16 | 4 => 16 | 8 => 16 | _ => 0
/-- The quarter turns' nine. -/
def q0m : Nat → Int := fun | 0 => 16 | 5 => -16 | 7 => 16 | _ => 0
def q1m : Nat → Int := fun | 2 => 16 | 4 => 16 | 6 => -16 | _ => 0
def q2m : Nat → Int := fun | 1 => -16 | 3 => 16 | 8 => 16 | _ => 0
/-- The m-th power. -/
def mat (R : Nat → Int) : Nat → Nat → Int
  | 0 => idm
  | m + 1 => mulR R (mat R m)
/-- What QuarterTurn gives. -/
def qt (axis k : Int) : Nat → Int := if axis = 0 then mat q0m (k % 4).toNat else if axis = 1 then mat q1m (k % 4).toNat else if axis = 2 then mat q2m (k % 4).toNat else idm
theorem q0_small : Small q0m := by show ∀ j, j < 9 → -16 ≤ q0m j ∧ q0m j ≤ 16; decide +kernel
theorem mat0_small {m : Nat} (h : m ≤ 3) : Small (mat q0m m) := by
  rcases (by omega : m = 0 ∨ m = 1 ∨ m = 2 ∨ m = 3) with rfl | rfl | rfl | rfl
  · show ∀ j, j < 9 → -16 ≤ mat q0m 0 j ∧ mat q0m 0 j ≤ 16; decide +kernel
  · show ∀ j, j < 9 → -16 ≤ mat q0m 1 j ∧ mat q0m 1 j ≤ 16; decide +kernel
  · show ∀ j, j < 9 → -16 ≤ mat q0m 2 j ∧ mat q0m 2 j ≤ 16; decide +kernel
  · show ∀ j, j < 9 → -16 ≤ mat q0m 3 j ∧ mat q0m 3 j ≤ 16; decide +kernel
theorem q1_small : Small q1m := by show ∀ j, j < 9 → -16 ≤ q1m j ∧ q1m j ≤ 16; decide +kernel
theorem mat1_small {m : Nat} (h : m ≤ 3) : Small (mat q1m m) := by
  rcases (by omega : m = 0 ∨ m = 1 ∨ m = 2 ∨ m = 3) with rfl | rfl | rfl | rfl
  · show ∀ j, j < 9 → -16 ≤ mat q1m 0 j ∧ mat q1m 0 j ≤ 16; decide +kernel
  · show ∀ j, j < 9 → -16 ≤ mat q1m 1 j ∧ mat q1m 1 j ≤ 16; decide +kernel
  · show ∀ j, j < 9 → -16 ≤ mat q1m 2 j ∧ mat q1m 2 j ≤ 16; decide +kernel
  · show ∀ j, j < 9 → -16 ≤ mat q1m 3 j ∧ mat q1m 3 j ≤ 16; decide +kernel
theorem q2_small : Small q2m := by show ∀ j, j < 9 → -16 ≤ q2m j ∧ q2m j ≤ 16; decide +kernel
theorem mat2_small {m : Nat} (h : m ≤ 3) : Small (mat q2m m) := by
  rcases (by omega : m = 0 ∨ m = 1 ∨ m = 2 ∨ m = 3) with rfl | rfl | rfl | rfl
  · show ∀ j, j < 9 → -16 ≤ mat q2m 0 j ∧ mat q2m 0 j ≤ 16; decide +kernel
  · show ∀ j, j < 9 → -16 ≤ mat q2m 1 j ∧ mat q2m 1 j ≤ 16; decide +kernel
  · show ∀ j, j < 9 → -16 ≤ mat q2m 2 j ∧ mat q2m 2 j ≤ 16; decide +kernel
  · show ∀ j, j < 9 → -16 ≤ mat q2m 3 j ∧ mat q2m 3 j ≤ 16; decide +kernel
end Go.Proofs.Ytobfccoljijnkaa
