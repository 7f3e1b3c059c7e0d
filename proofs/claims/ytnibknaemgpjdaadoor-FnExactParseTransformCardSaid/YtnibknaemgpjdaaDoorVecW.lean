/- Contracts of the functions on vectors, continued: products, the smaller and the greater, component by component. -/
import Derived.Test.YtnibknaemgpjdaaDoorVec2
namespace Go.Proofs.YtnibknaemgpjdaaDoor
open Go.RowKit

set_option maxHeartbeats 400000 in
theorem dot1 (a b : Int) (hl : -1000000000000000 ≤ a * b) (hh : a * b ≤ 1000000000000000) (w : World) :
    Calls Tryd.prog 67 #[.int .i64 a, .int .i64 b] w fun e w' => e = .returned (.int .i64 (a * b)) ∧ w = w' := by
  go_enter Tryd.func67, Tryd.ntmps67
  go_wp2
  go_ret
  exact ⟨rfl, rfl⟩
set_option maxHeartbeats 1000000 in
theorem with_dot (x y z x1 y1 z1 : Int) (xl : -1000000000000000 ≤ x * x1) (xh : x * x1 ≤ 1000000000000000) (yl : -1000000000000000 ≤ y * y1) (yh : y * y1 ≤ 1000000000000000) (zl : -1000000000000000 ≤ z * z1) (zh : z * z1 ≤ 1000000000000000) (w : World) :
    Calls Tryd.prog 66 #[.agg #[.int .i64 (x), .int .i64 (y), .int .i64 (z)], .agg #[.int .i64 (x1), .int .i64 (y1), .int .i64 (z1)], .func (.func 67) #[] #[]] w
      fun e w' => e = .returned (vec (x * x1) (y * y1) (z * z1)) ∧ Below w.heap.size w w' := by
  have Hx := Lib.hid (dot1 x x1 xl xh)
  have Hy := Lib.hid (dot1 y y1 yl yh)
  have Hz := Lib.hid (dot1 z z1 zl zh)
  clear xl xh yl yh zl zh
  go_enter Tryd.func66, Tryd.ntmps66
  go_wp2
  go_region_held3 (fun w' => w'.cell? ⟨w.heap.size, 0, none⟩ = some (.int .i64 x) ∧ w'.cell? ⟨w.heap.size, 1, none⟩ = some (.int .i64 y) ∧ w'.cell? ⟨w.heap.size, 2, none⟩ = some (.int .i64 z) ∧ w'.cell? ⟨w.heap.size + 1, 0, none⟩ = some (.int .i64 x1) ∧ w'.cell? ⟨w.heap.size + 1, 1, none⟩ = some (.int .i64 y1) ∧ w'.cell? ⟨w.heap.size + 1, 2, none⟩ = some (.int .i64 z1)) (go_keep)
    (first
      | (go_at_call_of 67 (Value.int .i64 x); refine (Hx.out _).mono ?_; rintro e w' ⟨rfl, rfl⟩)
      | (go_at_call_of 67 (Value.int .i64 y); refine (Hy.out _).mono ?_; rintro e w' ⟨rfl, rfl⟩)
      | (go_at_call_of 67 (Value.int .i64 z); refine (Hz.out _).mono ?_; rintro e w' ⟨rfl, rfl⟩))
  go_wp2
  exact bodyPost_ret (v := vec (x * x1) (y * y1) (z * z1)) (by simp [results, Tryd.results66, go_sem]) rfl ⟨rfl, ((((Below.refl _ _).alloc (Nat.le_refl _) _).alloc (by simp) _).alloc (by simp; omega) _).drew⟩
set_option maxHeartbeats 400000 in
theorem mxv1 (a b : Int)  (w : World) :
    Calls Tryd.prog 71 #[.int .i64 a, .int .i64 b] w fun e w' => e = .returned (.int .i64 (mxZ a b)) ∧ w = w' := by
  go_enter Tryd.func71, Tryd.ntmps71
  go_wp2
  all_goals
    go_ret
    exact ⟨ret_int (by first | rfl | (unfold mnZ; omega) | (unfold mxZ; omega)), rfl⟩
set_option maxHeartbeats 1000000 in
theorem with_mxv (x y z x1 y1 z1 : Int)  (w : World) :
    Calls Tryd.prog 66 #[.agg #[.int .i64 x, .int .i64 y, .int .i64 z], .agg #[.int .i64 x1, .int .i64 y1, .int .i64 z1], .func (.func 71) #[] #[]] w
      fun e w' => e = .returned (vec (mxZ x x1) (mxZ y y1) (mxZ z z1)) ∧ Below w.heap.size w w' := by
  go_enter Tryd.func66, Tryd.ntmps66
  go_wp2
  go_region_held3 (fun w' => w'.cell? ⟨w.heap.size, 0, none⟩ = some (.int .i64 x) ∧ w'.cell? ⟨w.heap.size, 1, none⟩ = some (.int .i64 y) ∧ w'.cell? ⟨w.heap.size, 2, none⟩ = some (.int .i64 z) ∧ w'.cell? ⟨w.heap.size + 1, 0, none⟩ = some (.int .i64 x1) ∧ w'.cell? ⟨w.heap.size + 1, 1, none⟩ = some (.int .i64 y1) ∧ w'.cell? ⟨w.heap.size + 1, 2, none⟩ = some (.int .i64 z1)) (go_keep)
    (first | (go_at_call 71; refine (mxv1 _ _ _).mono ?_; rintro e w' ⟨rfl, rfl⟩))
  go_wp2
  exact bodyPost_ret (v := vec (mxZ x x1) (mxZ y y1) (mxZ z z1)) (by simp [results, Tryd.results66, go_sem]) rfl ⟨rfl, ((((Below.refl _ _).alloc (Nat.le_refl _) _).alloc (by simp) _).alloc (by simp; omega) _).drew⟩
set_option maxHeartbeats 400000 in
theorem mnv1 (a b : Int)  (w : World) :
    Calls Tryd.prog 70 #[.int .i64 a, .int .i64 b] w fun e w' => e = .returned (.int .i64 (mnZ a b)) ∧ w = w' := by
  go_enter Tryd.func70, Tryd.ntmps70
  go_wp2
  all_goals
    go_ret
    exact ⟨ret_int (by first | rfl | (unfold mnZ; omega) | (unfold mxZ; omega)), rfl⟩
set_option maxHeartbeats 1000000 in
theorem with_mnv (x y z x1 y1 z1 : Int)  (w : World) :
    Calls Tryd.prog 66 #[.agg #[.int .i64 x, .int .i64 y, .int .i64 z], .agg #[.int .i64 x1, .int .i64 y1, .int .i64 z1], .func (.func 70) #[] #[]] w
      fun e w' => e = .returned (vec (mnZ x x1) (mnZ y y1) (mnZ z z1)) ∧ Below w.heap.size w w' := by
  go_enter Tryd.func66, Tryd.ntmps66
  go_wp2
  go_region_held3 (fun w' => w'.cell? ⟨w.heap.size, 0, none⟩ = some (.int .i64 x) ∧ w'.cell? ⟨w.heap.size, 1, none⟩ = some (.int .i64 y) ∧ w'.cell? ⟨w.heap.size, 2, none⟩ = some (.int .i64 z) ∧ w'.cell? ⟨w.heap.size + 1, 0, none⟩ = some (.int .i64 x1) ∧ w'.cell? ⟨w.heap.size + 1, 1, none⟩ = some (.int .i64 y1) ∧ w'.cell? ⟨w.heap.size + 1, 2, none⟩ = some (.int .i64 z1)) (go_keep)
    (first | (go_at_call 70; refine (mnv1 _ _ _).mono ?_; rintro e w' ⟨rfl, rfl⟩))
  go_wp2
  exact bodyPost_ret (v := vec (mnZ x x1) (mnZ y y1) (mnZ z z1)) (by simp [results, Tryd.results66, go_sem]) rfl ⟨rfl, ((((Below.refl _ _).alloc (Nat.le_refl _) _).alloc (by simp) _).alloc (by simp; omega) _).drew⟩
end Go.Proofs.YtnibknaemgpjdaaDoor
