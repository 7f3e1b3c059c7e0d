/- Contracts of the functions on vectors, continued: the reference's limiting, the laws' own copies and comparisons, sums. -/
import Derived.Test.YthcoogljaagneaaDoorVec
namespace Go.Proofs.YthcoogljaagneaaDoor
open Go.RowKit

set_option maxHeartbeats 400000 in
theorem l02N_any (n : Int) (w : World) :
    Calls Tryd.prog 68 #[.int .i64 n] w fun e w' => e = .returned (.int .i64 (cl n)) ∧ w = w' := by
  go_enter Tryd.func68, Tryd.ntmps68
  go_wp2_with (go_at_call 86; refine (clampS _ _ _ _).mono ?_; rintro e w' ⟨rfl, rfl⟩)
  go_ret
  exact ⟨rfl, rfl⟩
set_option maxHeartbeats 1000000 in
theorem l02V_any (x y z : Int) (w : World) :
    Calls Tryd.prog 58 #[.agg #[.int .i64 x, .int .i64 y, .int .i64 z]] w
      fun e w' => e = .returned (vec (cl x) (cl y) (cl z)) ∧ Below w.heap.size w w' := by
  go_enter Tryd.func58, Tryd.ntmps58
  go_wp2
  go_region_held3 (fun w' => w'.cell? ⟨w.heap.size, 0, none⟩ = some (.int .i64 x) ∧ w'.cell? ⟨w.heap.size, 1, none⟩ = some (.int .i64 y) ∧ w'.cell? ⟨w.heap.size, 2, none⟩ = some (.int .i64 z)) (go_keep)
    (first | (go_at_call 68; refine (l02N_any _ _).mono ?_; rintro e w' ⟨rfl, rfl⟩))
  go_wp2
  exact bodyPost_ret (v := vec (cl x) (cl y) (cl z)) (by simp [results, Tryd.results58, go_sem]) rfl ⟨rfl, (((Below.refl _ _).alloc (Nat.le_refl _) _).alloc (by simp) _).drew⟩
set_option maxHeartbeats 400000 in
theorem toVec_any (x y z : Int) (w : World) :
    Calls Tryd.prog 19 #[.agg #[.int .i64 x, .int .i64 y, .int .i64 z]] w
      fun e w' => e = .returned (vec x y z) ∧ Below w.heap.size w w' := by
  go_enter Tryd.func19, Tryd.ntmps19
  go_wp2
  exact bodyPost_ret (v := vec x y z) (by simp [results, Tryd.results19, go_sem]) rfl ⟨rfl, ((((Below.refl _ _).alloc (Nat.le_refl _) _).alloc (by simp) _).alloc (by simp; omega) _)⟩
set_option maxHeartbeats 400000 in
theorem eqVec_same (x y z : Int) (w : World) :
    Calls Tryd.prog 38 #[.agg #[.int .i64 x, .int .i64 y, .int .i64 z], .agg #[.int .i64 x, .int .i64 y, .int .i64 z]] w
      fun e w' => e = .returned (.bool true) ∧ Below w.heap.size w w' := by
  go_enter Tryd.func38, Tryd.ntmps38
  go_wp2
  go_ret
  exact ⟨rfl, ((Below.refl _ _).alloc (Nat.le_refl _) _).alloc (by simp) _⟩
end Go.Proofs.YthcoogljaagneaaDoor
