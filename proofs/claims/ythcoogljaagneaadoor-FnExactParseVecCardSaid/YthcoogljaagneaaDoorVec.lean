/- Contracts of the functions on vectors. -/
import Derived.Test.YthcoogljaagneaaDoorNum
import Derived.Test.YthcoogljaagneaaDoorBlk
import Derived.Lib.Hide
import Derived.Deep.QuietTactic
import Derived.BigQuiet
import Derived.Deep.RegionHeld3
import Derived.Deep.RegionWith
import Derived.StillTailTactics
namespace Go.Proofs.YthcoogljaagneaaDoor
open Go.RowKit

/-- The smaller, the greater. -/
def mnZ (a b : Int) : Int := min a b
def mxZ (a b : Int) : Int := max a b
/-- A vector as a value. -/
abbrev vec (x y z : Int) : Value := .agg #[.int .i64 x, .int .i64 y, .int .i64 z]

set_option maxHeartbeats 400000 in
theorem clamped1 (n : Int) (w : World) :
    Calls Tryd.prog 70 #[.int .i64 n] w fun e w' => e = .returned (.int .i64 (cl n)) ∧ w = w' := by
  go_enter Tryd.func70, Tryd.ntmps70
  go_wp2_with (go_at_call 71; refine (clampI _ _ _ _).mono ?_; rintro e w' ⟨rfl, rfl⟩)
  go_ret
  exact ⟨rfl, rfl⟩
set_option maxHeartbeats 1000000 in
theorem each_cl (x y z : Int) (w : World) :
    Calls Tryd.prog 69 #[.agg #[.int .i64 x, .int .i64 y, .int .i64 z], .func (.func 70) #[] #[]] w
      fun e w' => e = .returned (vec (cl x) (cl y) (cl z)) ∧ Below w.heap.size w w' := by
  go_enter Tryd.func69, Tryd.ntmps69
  go_wp2
  go_region_held3 (fun w' => w'.cell? ⟨w.heap.size, 0, none⟩ = some (.int .i64 x) ∧ w'.cell? ⟨w.heap.size, 1, none⟩ = some (.int .i64 y) ∧ w'.cell? ⟨w.heap.size, 2, none⟩ = some (.int .i64 z)) (go_keep)
    (first | (go_at_call 70; refine (clamped1 _ _).mono ?_; rintro e w' ⟨rfl, rfl⟩))
  go_wp2
  exact bodyPost_ret (v := vec (cl x) (cl y) (cl z)) (by simp [results, Tryd.results69, go_sem]) rfl ⟨rfl, (((Below.refl _ _).alloc (Nat.le_refl _) _).alloc (by simp) _).drew⟩
set_option maxHeartbeats 1000000 in
theorem clamped_any (x y z : Int) (w : World) :
    Calls Tryd.prog 59 #[.agg #[.int .i64 x, .int .i64 y, .int .i64 z]] w
      fun e w' => e = .returned (vec (cl x) (cl y) (cl z)) ∧ Below w.heap.size w w' := by
  go_enter Tryd.func59, Tryd.ntmps59
  go_wp2_with fail
  refine (each_cl _ _ _ _).mono ?_
  rintro e w1 ⟨rfl, hb1⟩
  obtain ⟨hc, hf⟩ := bcell hb1
  have hB : Below w.heap.size w w1 := (((Below.refl _ _).alloc (Nat.le_refl _) _).alloc (by simp) _).trans (hb1.mono (by simp; omega))
  clear hb1
  go_wp2
  exact bodyPost_ret (v := vec (cl x) (cl y) (cl z)) (by simp [results, Tryd.results59, go_sem, hc]) rfl ⟨rfl, ((hB.setCell (by simp) _).setCell (by simp) _).setCell (by simp) _⟩
end Go.Proofs.YthcoogljaagneaaDoor
