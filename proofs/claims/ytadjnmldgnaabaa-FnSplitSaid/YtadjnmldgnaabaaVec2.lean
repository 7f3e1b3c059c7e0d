/- Contracts of the functions on vectors, continued: the reference's limiting, the laws' own copies and comparisons, sums. -/
import Derived.Test.YtadjnmldgnaabaaVec
namespace Go.Proofs.Ytadjnmldgnaabaa
open Go.RowKit

set_option maxHeartbeats 1000000 in
theorem plus_any (x y z x1 y1 z1 : Int) (xl : -1000000000000000 ≤ x) (xh : x ≤ 1000000000000000) (yl : -1000000000000000 ≤ y) (yh : y ≤ 1000000000000000) (zl : -1000000000000000 ≤ z) (zh : z ≤ 1000000000000000)
    (x1l : -1000000000000000 ≤ x1) (x1h : x1 ≤ 1000000000000000) (y1l : -1000000000000000 ≤ y1) (y1h : y1 ≤ 1000000000000000) (z1l : -1000000000000000 ≤ z1) (z1h : z1 ≤ 1000000000000000) (w : World) :
    Calls Try.prog 29 #[.agg #[.int .i64 x, .int .i64 y, .int .i64 z], .agg #[.int .i64 x1, .int .i64 y1, .int .i64 z1]] w
      fun e w' => e = .returned (vec (x + x1) (y + y1) (z + z1)) ∧ Below w.heap.size w w' := by
  have H := Lib.hid (with_plus x y z x1 y1 z1 xl xh yl yh zl zh x1l x1h y1l y1h z1l z1h)
  clear xl xh yl yh zl zh x1l x1h y1l y1h z1l z1h
  go_enter Try.func29, Try.ntmps29
  go_wp2_with fail
  refine (H.out _).mono ?_
  rintro e w1 ⟨rfl, hb1⟩
  obtain ⟨hc, hf⟩ := bcell hb1
  have hB : Below w.heap.size w w1 := ((((Below.refl _ _).alloc (Nat.le_refl _) _).alloc (by simp) _).alloc (by simp; omega) _).trans (hb1.mono (by simp; omega))
  clear hb1
  go_wp2
  exact bodyPost_ret (v := vec (x + x1) (y + y1) (z + z1)) (by simp [results, Try.results29, go_sem, hc]) rfl ⟨rfl, ((hB.setCell (by simp; omega) _).setCell (by simp; omega) _).setCell (by simp; omega) _⟩
end Go.Proofs.Ytadjnmldgnaabaa
