/- Contracts of the functions on vectors, continued: products, the smaller and the greater, component by component. -/
import Derived.Test.YtobfccoljijnkaaVec2
namespace Go.Proofs.Ytobfccoljijnkaa
open Go.RowKit

set_option maxHeartbeats 400000 in
theorem mxv1 (a b : Int)  (w : World) :
    Calls Try.prog 95 #[.int .i64 a, .int .i64 b] w fun e w' => e = .returned (.int .i64 (mxZ a b)) ∧ w = w' := by
  go_enter Try.func95, Try.ntmps95
  go_wp2
  all_goals
    go_ret
    exact ⟨ret_int (by first | rfl | (unfold mnZ; omega) | (unfold mxZ; omega)), rfl⟩
set_option maxHeartbeats 1000000 in
theorem with_mxv (x y z x1 y1 z1 : Int)  (w : World) :
    Calls Try.prog 87 #[.agg #[.int .i64 x, .int .i64 y, .int .i64 z], .agg #[.int .i64 x1, .int .i64 y1, .int .i64 z1], .func (.func 95) #[] #[]] w
      fun e w' => e = .returned (vec (mxZ x x1) (mxZ y y1) (mxZ z z1)) ∧ Below w.heap.size w w' := by
  go_enter Try.func87, Try.ntmps87
  go_wp2
  go_region_held3 (fun w' => w'.cell? ⟨w.heap.size, 0, none⟩ = some (.int .i64 x) ∧ w'.cell? ⟨w.heap.size, 1, none⟩ = some (.int .i64 y) ∧ w'.cell? ⟨w.heap.size, 2, none⟩ = some (.int .i64 z) ∧ w'.cell? ⟨w.heap.size + 1, 0, none⟩ = some (.int .i64 x1) ∧ w'.cell? ⟨w.heap.size + 1, 1, none⟩ = some (.int .i64 y1) ∧ w'.cell? ⟨w.heap.size + 1, 2, none⟩ = some (.int .i64 z1)) (go_keep)
    (first | (go_at_call 95; refine (mxv1 _ _ _).mono ?_; rintro e w' ⟨rfl, rfl⟩))
  go_wp2
  exact bodyPost_ret (v := vec (mxZ x x1) (mxZ y y1) (mxZ z z1)) (by simp [results, Try.results87, go_sem]) rfl ⟨rfl, ((((Below.refl _ _).alloc (Nat.le_refl _) _).alloc (by simp) _).alloc (by simp; omega) _).drew⟩
set_option maxHeartbeats 400000 in
theorem mnv1 (a b : Int)  (w : World) :
    Calls Try.prog 94 #[.int .i64 a, .int .i64 b] w fun e w' => e = .returned (.int .i64 (mnZ a b)) ∧ w = w' := by
  go_enter Try.func94, Try.ntmps94
  go_wp2
  all_goals
    go_ret
    exact ⟨ret_int (by first | rfl | (unfold mnZ; omega) | (unfold mxZ; omega)), rfl⟩
set_option maxHeartbeats 1000000 in
theorem with_mnv (x y z x1 y1 z1 : Int)  (w : World) :
    Calls Try.prog 87 #[.agg #[.int .i64 x, .int .i64 y, .int .i64 z], .agg #[.int .i64 x1, .int .i64 y1, .int .i64 z1], .func (.func 94) #[] #[]] w
      fun e w' => e = .returned (vec (mnZ x x1) (mnZ y y1) (mnZ z z1)) ∧ Below w.heap.size w w' := by
  go_enter Try.func87, Try.ntmps87
  go_wp2
  go_region_held3 (fun w' => w'.cell? ⟨w.heap.size, 0, none⟩ = some (.int .i64 x) ∧ w'.cell? ⟨w.heap.size, 1, none⟩ = some (.int .i64 y) ∧ w'.cell? ⟨w.heap.size, 2, none⟩ = some (.int .i64 z) ∧ w'.cell? ⟨w.heap.size + 1, 0, none⟩ = some (.int .i64 x1) ∧ w'.cell? ⟨w.heap.size + 1, 1, none⟩ = some (.int .i64 y1) ∧ w'.cell? ⟨w.heap.size + 1, 2, none⟩ = some (.int .i64 z1)) (go_keep)
    (first | (go_at_call 94; refine (mnv1 _ _ _).mono ?_; rintro e w' ⟨rfl, rfl⟩))
  go_wp2
  exact bodyPost_ret (v := vec (mnZ x x1) (mnZ y y1) (mnZ z z1)) (by simp [results, Try.results87, go_sem]) rfl ⟨rfl, ((((Below.refl _ _).alloc (Nat.le_refl _) _).alloc (by simp) _).alloc (by simp; omega) _).drew⟩
set_option maxHeartbeats 400000 in
theorem mxo1 (a b : Int)  (w : World) :
    Calls Try.prog 88 #[.int .i64 a, .int .i64 b] w fun e w' => e = .returned (.int .i64 (mxZ a b)) ∧ w = w' := by
  go_enter Try.func88, Try.ntmps88
  go_wp2
  all_goals
    go_ret
    exact ⟨ret_int (by first | rfl | (unfold mnZ; omega) | (unfold mxZ; omega)), rfl⟩
set_option maxHeartbeats 1000000 in
theorem with_mxo (x y z x1 y1 z1 : Int)  (w : World) :
    Calls Try.prog 87 #[.agg #[.int .i64 x, .int .i64 y, .int .i64 z], .agg #[.int .i64 x1, .int .i64 y1, .int .i64 z1], .func (.func 88) #[] #[]] w
      fun e w' => e = .returned (vec (mxZ x x1) (mxZ y y1) (mxZ z z1)) ∧ Below w.heap.size w w' := by
  go_enter Try.func87, Try.ntmps87
  go_wp2
  go_region_held3 (fun w' => w'.cell? ⟨w.heap.size, 0, none⟩ = some (.int .i64 x) ∧ w'.cell? ⟨w.heap.size, 1, none⟩ = some (.int .i64 y) ∧ w'.cell? ⟨w.heap.size, 2, none⟩ = some (.int .i64 z) ∧ w'.cell? ⟨w.heap.size + 1, 0, none⟩ = some (.int .i64 x1) ∧ w'.cell? ⟨w.heap.size + 1, 1, none⟩ = some (.int .i64 y1) ∧ w'.cell? ⟨w.heap.size + 1, 2, none⟩ = some (.int .i64 z1)) (go_keep)
    (first | (go_at_call 88; refine (mxo1 _ _ _).mono ?_; rintro e w' ⟨rfl, rfl⟩))
  go_wp2
  exact bodyPost_ret (v := vec (mxZ x x1) (mxZ y y1) (mxZ z z1)) (by simp [results, Try.results87, go_sem]) rfl ⟨rfl, ((((Below.refl _ _).alloc (Nat.le_refl _) _).alloc (by simp) _).alloc (by simp; omega) _).drew⟩
set_option maxHeartbeats 400000 in
theorem mno1 (a b : Int)  (w : World) :
    Calls Try.prog 89 #[.int .i64 a, .int .i64 b] w fun e w' => e = .returned (.int .i64 (mnZ a b)) ∧ w = w' := by
  go_enter Try.func89, Try.ntmps89
  go_wp2
  all_goals
    go_ret
    exact ⟨ret_int (by first | rfl | (unfold mnZ; omega) | (unfold mxZ; omega)), rfl⟩
set_option maxHeartbeats 1000000 in
theorem with_mno (x y z x1 y1 z1 : Int)  (w : World) :
    Calls Try.prog 87 #[.agg #[.int .i64 x, .int .i64 y, .int .i64 z], .agg #[.int .i64 x1, .int .i64 y1, .int .i64 z1], .func (.func 89) #[] #[]] w
      fun e w' => e = .returned (vec (mnZ x x1) (mnZ y y1) (mnZ z z1)) ∧ Below w.heap.size w w' := by
  go_enter Try.func87, Try.ntmps87
  go_wp2
  go_region_held3 (fun w' => w'.cell? ⟨w.heap.size, 0, none⟩ = some (.int .i64 x) ∧ w'.cell? ⟨w.heap.size, 1, none⟩ = some (.int .i64 y) ∧ w'.cell? ⟨w.heap.size, 2, none⟩ = some (.int .i64 z) ∧ w'.cell? ⟨w.heap.size + 1, 0, none⟩ = some (.int .i64 x1) ∧ w'.cell? ⟨w.heap.size + 1, 1, none⟩ = some (.int .i64 y1) ∧ w'.cell? ⟨w.heap.size + 1, 2, none⟩ = some (.int .i64 z1)) (go_keep)
    (first | (go_at_call 89; refine (mno1 _ _ _).mono ?_; rintro e w' ⟨rfl, rfl⟩))
  go_wp2
  exact bodyPost_ret (v := vec (mnZ x x1) (mnZ y y1) (mnZ z z1)) (by simp [results, Try.results87, go_sem]) rfl ⟨rfl, ((((Below.refl _ _).alloc (Nat.le_refl _) _).alloc (by simp) _).alloc (by simp; omega) _).drew⟩
end Go.Proofs.Ytobfccoljijnkaa
