/- Contracts of the functions on vectors. -/
import Derived.Test.YtadjnmldgnaabaaNum
import Derived.Test.YtadjnmldgnaabaaBlk
import Derived.Lib.Hide
import Derived.Deep.QuietTactic
import Derived.BigQuiet
import Derived.Deep.RegionHeld3
import Derived.Deep.RegionWith
import Derived.StillTailTactics
namespace Go.Proofs.Ytadjnmldgnaabaa
open Go.RowKit

/-- The smaller, the greater. -/
def mnZ (a b : Int) : Int := min a b
def mxZ (a b : Int) : Int := max a b
/-- A vector as a value. -/
abbrev vec (x y z : Int) : Value := .agg #[.int .i64 x, .int .i64 y, .int .i64 z]

set_option maxHeartbeats 400000 in
theorem clamped1 (n : Int) (w : World) :
    Calls Try.prog 33 #[.int .i64 n] w fun e w' => e = .returned (.int .i64 (cl n)) ∧ w = w' := by
  go_enter Try.func33, Try.ntmps33
  go_wp2_with (go_at_call 34; refine (clampI _ _ _ _).mono ?_; rintro e w' ⟨rfl, rfl⟩)
  go_ret
  exact ⟨rfl, rfl⟩
set_option maxHeartbeats 1000000 in
theorem each_cl (x y z : Int) (w : World) :
    Calls Try.prog 32 #[.agg #[.int .i64 x, .int .i64 y, .int .i64 z], .func (.func 33) #[] #[]] w
      fun e w' => e = .returned (vec (cl x) (cl y) (cl z)) ∧ Below w.heap.size w w' := by
  go_enter Try.func32, Try.ntmps32
  go_wp2
  go_region_held3 (fun w' => w'.cell? ⟨w.heap.size, 0, none⟩ = some (.int .i64 x) ∧ w'.cell? ⟨w.heap.size, 1, none⟩ = some (.int .i64 y) ∧ w'.cell? ⟨w.heap.size, 2, none⟩ = some (.int .i64 z)) (go_keep)
    (first | (go_at_call 33; refine (clamped1 _ _).mono ?_; rintro e w' ⟨rfl, rfl⟩))
  go_wp2
  exact bodyPost_ret (v := vec (cl x) (cl y) (cl z)) (by simp [results, Try.results32, go_sem]) rfl ⟨rfl, (((Below.refl _ _).alloc (Nat.le_refl _) _).alloc (by simp) _).drew⟩
set_option maxHeartbeats 1000000 in
theorem clamped_any (x y z : Int) (w : World) :
    Calls Try.prog 24 #[.agg #[.int .i64 x, .int .i64 y, .int .i64 z]] w
      fun e w' => e = .returned (vec (cl x) (cl y) (cl z)) ∧ Below w.heap.size w w' := by
  go_enter Try.func24, Try.ntmps24
  go_wp2_with fail
  refine (each_cl _ _ _ _).mono ?_
  rintro e w1 ⟨rfl, hb1⟩
  obtain ⟨hc, hf⟩ := bcell hb1
  have hB : Below w.heap.size w w1 := (((Below.refl _ _).alloc (Nat.le_refl _) _).alloc (by simp) _).trans (hb1.mono (by simp; omega))
  clear hb1
  go_wp2
  exact bodyPost_ret (v := vec (cl x) (cl y) (cl z)) (by simp [results, Try.results24, go_sem, hc]) rfl ⟨rfl, ((hB.setCell (by simp) _).setCell (by simp) _).setCell (by simp) _⟩
set_option maxHeartbeats 400000 in
theorem plus1 (a b : Int) (al : -1000000000000000 ≤ a) (ah : a ≤ 1000000000000000) (bl : -1000000000000000 ≤ b) (bh : b ≤ 1000000000000000) (w : World) :
    Calls Try.prog 36 #[.int .i64 a, .int .i64 b] w fun e w' => e = .returned (.int .i64 (a + b)) ∧ w = w' := by
  go_enter Try.func36, Try.ntmps36
  go_wp2
  all_goals
    go_ret
    exact ⟨ret_int (by first | rfl | (unfold mnZ; omega) | (unfold mxZ; omega)), rfl⟩
set_option maxHeartbeats 1000000 in
theorem with_plus (x y z x1 y1 z1 : Int) (xl : -1000000000000000 ≤ x) (xh : x ≤ 1000000000000000) (yl : -1000000000000000 ≤ y) (yh : y ≤ 1000000000000000) (zl : -1000000000000000 ≤ z) (zh : z ≤ 1000000000000000) (x1l : -1000000000000000 ≤ x1) (x1h : x1 ≤ 1000000000000000) (y1l : -1000000000000000 ≤ y1) (y1h : y1 ≤ 1000000000000000) (z1l : -1000000000000000 ≤ z1) (z1h : z1 ≤ 1000000000000000) (w : World) :
    Calls Try.prog 35 #[.agg #[.int .i64 x, .int .i64 y, .int .i64 z], .agg #[.int .i64 x1, .int .i64 y1, .int .i64 z1], .func (.func 36) #[] #[]] w
      fun e w' => e = .returned (vec (x + x1) (y + y1) (z + z1)) ∧ Below w.heap.size w w' := by
  go_enter Try.func35, Try.ntmps35
  go_wp2
  go_region_held3 (fun w' => w'.cell? ⟨w.heap.size, 0, none⟩ = some (.int .i64 x) ∧ w'.cell? ⟨w.heap.size, 1, none⟩ = some (.int .i64 y) ∧ w'.cell? ⟨w.heap.size, 2, none⟩ = some (.int .i64 z) ∧ w'.cell? ⟨w.heap.size + 1, 0, none⟩ = some (.int .i64 x1) ∧ w'.cell? ⟨w.heap.size + 1, 1, none⟩ = some (.int .i64 y1) ∧ w'.cell? ⟨w.heap.size + 1, 2, none⟩ = some (.int .i64 z1)) (go_keep)
    (first | (go_at_call 36; refine (plus1 _ _ (by assumption) (by assumption) (by assumption) (by assumption) _).mono ?_; rintro e w' ⟨rfl, rfl⟩))
  go_wp2
  exact bodyPost_ret (v := vec (x + x1) (y + y1) (z + z1)) (by simp [results, Try.results35, go_sem]) rfl ⟨rfl, ((((Below.refl _ _).alloc (Nat.le_refl _) _).alloc (by simp) _).alloc (by simp; omega) _).drew⟩
end Go.Proofs.Ytadjnmldgnaabaa
