/- The quarters of the whole patch, and what a patch has at the edge that two of them share. -/
import Derived.Test.YtadjnmldgnaabaaSplJ
import Derived.Test.YtadjnmldgnaabaaEvSub
import Derived.Test.YtadjnmldgnaabaaVec3
namespace Go.Proofs.Ytadjnmldgnaabaa
open Go Go.RowKit

theorem eqv_same (a b c : Int) (w : World) : (Op.equalIn 10000 33 (.agg #[.int .i64 (a), .int .i64 (b), .int .i64 (c)]) (.agg #[.int .i64 (a), .int .i64 (b), .int .i64 (c)])).run Try.prog w = .ok true w := by
  rw [equalIn_vec]; simp
/-- Block g begins with the four quarters of the whole patch. -/
def Qd (w : World) (g : Nat) : Prop := g < w.heap.size ∧ ∀ i, i < 12 → w.cell? ⟨g, i, none⟩ = some (.int .i64 (spF 0 0 1 i))
section
variable {w w1 W : World} {g : Nat}
theorem Qd.lt (h : Qd w g) : g < w.heap.size := h.1
theorem Qd.keep (hb : Below W.heap.size W w1) (h : Qd W g) : Qd w1 g := ⟨Nat.lt_of_lt_of_le h.1 hb.size, fun i hi => (hb.cell (p := ⟨g, i, none⟩) h.1).trans (h.2 i hi)⟩
theorem Qd.drew (h : Qd w g) : Qd w.drew g := h
theorem Qd.alloc (h : Qd w g) (ob : Obj) : Qd (w.alloc ob) g := h.keep (below1 w ob)
theorem Qd.far3 (h : Qd w g) {g' : Nat} (hp : g ≠ g') (a b c : Value) : Qd (((w.setCell ⟨g', 0, none⟩ a).setCell ⟨g', 1, none⟩ b).setCell ⟨g', 2, none⟩ c) g := by
  have hne : ∀ i j, (⟨g', j, none⟩ : Addr) ≠ ⟨g, i, none⟩ := fun i j e => hp (by injection e with h1 _ _; exact h1.symm)
  refine ⟨by simpa [World.setCell] using h.1, fun i hi => ?_⟩
  rw [World.cell?_setCell_other _ _ _ _ (hne i 2), World.cell?_setCell_other _ _ _ _ (hne i 1), World.cell?_setCell_other _ _ _ _ (hne i 0)]
  exact h.2 i hi
theorem Qd.q0 (h : Qd w g) : w.cell? ⟨g, 0, none⟩ = some (.int .i64 0) ∧ w.cell? ⟨g, 1, none⟩ = some (.int .i64 0) ∧ w.cell? ⟨g, 2, none⟩ = some (.int .i64 2) := ⟨h.2 0 (by omega), h.2 1 (by omega), h.2 2 (by omega)⟩
theorem Qd.q1 (h : Qd w g) : w.cell? ⟨g, 3, none⟩ = some (.int .i64 1) ∧ w.cell? ⟨g, 4, none⟩ = some (.int .i64 0) ∧ w.cell? ⟨g, 5, none⟩ = some (.int .i64 2) := ⟨h.2 3 (by omega), h.2 4 (by omega), h.2 5 (by omega)⟩
theorem Qd.q2 (h : Qd w g) : w.cell? ⟨g, 6, none⟩ = some (.int .i64 0) ∧ w.cell? ⟨g, 7, none⟩ = some (.int .i64 1) ∧ w.cell? ⟨g, 8, none⟩ = some (.int .i64 2) := ⟨h.2 6 (by omega), h.2 7 (by omega), h.2 8 (by omega)⟩
end
theorem spN_one : spN 0 0 1 = 4 := by decide
theorem qd_of {w : World} {B : Nat} {v : Value} (h : SubsAt w B v (spN 0 0 1) (spF 0 0 1)) : ∃ g cap, v = .slice (some ⟨g, 0, none⟩) 4 cap ∧ Qd w g ∧ B ≤ g := by
  rw [spN_one] at h
  obtain ⟨a, cap, rfl, _, hc⟩ := h
  obtain ⟨g, rfl, h1, h2, h3⟩ := hc (by omega)
  exact ⟨g, cap, rfl, ⟨h2, fun i hi => (h3 i (by omega)).1⟩, h1⟩
theorem inB_y {n lo hi : Int} (h1 : lo ≤ n) (h2 : n ≤ hi) : inB n lo hi = true := inB_iff.2 ⟨h1, h2⟩
theorem es_at {u v i j n : Int} (hs : subOk u v 2 = true) (h1 : 1 ≤ n) (h2 : n ≤ 8) (i0 : 0 ≤ i) (i1 : i ≤ n) (j0 : 0 ≤ j) (j1 : j ≤ n) : esOk u v 2 i j n = true := by
  unfold esOk
  rw [hs, inB_y h1 (by omega), inB_y i0 i1, inB_y j0 j1, decide_eq_true (by omega : 2 * n ≤ 64)]
  rfl
theorem sub_00 : subOk 0 0 2 = true := by decide
theorem sub_10 : subOk 1 0 2 = true := by decide
theorem sub_01 : subOk 0 1 2 = true := by decide
/-- The law's five calls. -/
theorem split_small (p0 p1 p2 p3 p4 p5 p6 p7 p8 p9 p10 p11 : Int) {n j : Int} (h1 : 1 ≤ n) (h2 : n ≤ 8) (j0 : 0 ≤ j) (j1 : j ≤ n) : ∃ v0 v1 v2 e0 e1 e2 : Int,
    (∀ w, Calls Try.prog 13 #[.agg #[.int .i64 (p0), .int .i64 (p1), .int .i64 (p2), .int .i64 (p3), .int .i64 (p4), .int .i64 (p5), .int .i64 (p6), .int .i64 (p7), .int .i64 (p8), .int .i64 (p9), .int .i64 (p10), .int .i64 (p11)], .agg #[.int .i64 (0), .int .i64 (0), .int .i64 (2)], .int .i64 n, .int .i64 j, .int .i64 n] w fun r w' => r = .returned (.tuple #[.agg #[.int .i64 (v0), .int .i64 (v1), .int .i64 (v2)], .bool true]) ∧ Below w.heap.size w w') ∧
    (∀ w, Calls Try.prog 13 #[.agg #[.int .i64 (p0), .int .i64 (p1), .int .i64 (p2), .int .i64 (p3), .int .i64 (p4), .int .i64 (p5), .int .i64 (p6), .int .i64 (p7), .int .i64 (p8), .int .i64 (p9), .int .i64 (p10), .int .i64 (p11)], .agg #[.int .i64 (1), .int .i64 (0), .int .i64 (2)], .int .i64 0, .int .i64 j, .int .i64 n] w fun r w' => r = .returned (.tuple #[.agg #[.int .i64 (v0), .int .i64 (v1), .int .i64 (v2)], .bool true]) ∧ Below w.heap.size w w') ∧
    (∀ w, Calls Try.prog 13 #[.agg #[.int .i64 (p0), .int .i64 (p1), .int .i64 (p2), .int .i64 (p3), .int .i64 (p4), .int .i64 (p5), .int .i64 (p6), .int .i64 (p7), .int .i64 (p8), .int .i64 (p9), .int .i64 (p10), .int .i64 (p11)], .agg #[.int .i64 (0), .int .i64 (0), .int .i64 (2)], .int .i64 j, .int .i64 n, .int .i64 n] w fun r w' => r = .returned (.tuple #[.agg #[.int .i64 (e0), .int .i64 (e1), .int .i64 (e2)], .bool true]) ∧ Below w.heap.size w w') ∧
    (∀ w, Calls Try.prog 13 #[.agg #[.int .i64 (p0), .int .i64 (p1), .int .i64 (p2), .int .i64 (p3), .int .i64 (p4), .int .i64 (p5), .int .i64 (p6), .int .i64 (p7), .int .i64 (p8), .int .i64 (p9), .int .i64 (p10), .int .i64 (p11)], .agg #[.int .i64 (0), .int .i64 (1), .int .i64 (2)], .int .i64 j, .int .i64 0, .int .i64 n] w fun r w' => r = .returned (.tuple #[.agg #[.int .i64 (e0), .int .i64 (e1), .int .i64 (e2)], .bool true]) ∧ Below w.heap.size w w') ∧
    (∀ w, Calls Try.prog 14 #[.agg #[.int .i64 (p0), .int .i64 (p1), .int .i64 (p2), .int .i64 (p3), .int .i64 (p4), .int .i64 (p5), .int .i64 (p6), .int .i64 (p7), .int .i64 (p8), .int .i64 (p9), .int .i64 (p10), .int .i64 (p11)], .int .i64 n, .int .i64 j, .int .i64 (2 * n)] w fun r w' => r = .returned (.agg #[.int .i64 (v0), .int .i64 (v1), .int .i64 (v2)]) ∧ Below w.heap.size w w') := by
  have k1 := es_at (i := n) (j := j) sub_00 h1 h2 (by omega) (by omega) j0 j1
  have k2 := es_at (i := 0) (j := j) sub_10 h1 h2 (by omega) (by omega) j0 j1
  have k3 := es_at (i := j) (j := n) sub_00 h1 h2 j0 j1 (by omega) (by omega)
  have k4 := es_at (i := j) (j := 0) sub_01 h1 h2 j0 j1 (by omega) (by omega)
  have g1 := fun w => evalSubI p0 p1 p2 p3 p4 p5 p6 p7 p8 p9 p10 p11 0 0 2 n j n w
  have g2 := fun w => evalSubI p0 p1 p2 p3 p4 p5 p6 p7 p8 p9 p10 p11 1 0 2 0 j n w
  have g3 := fun w => evalSubI p0 p1 p2 p3 p4 p5 p6 p7 p8 p9 p10 p11 0 0 2 j n n w
  have g4 := fun w => evalSubI p0 p1 p2 p3 p4 p5 p6 p7 p8 p9 p10 p11 0 1 2 j 0 n w
  simp only [esF_yes k1, k1, Int.zero_mul, Int.zero_add] at g1
  simp only [esF_yes k2, k2, Int.zero_mul, Int.zero_add, Int.one_mul, Int.add_zero] at g2
  simp only [esF_yes k3, k3, Int.zero_mul, Int.zero_add] at g3
  simp only [esF_yes k4, k4, Int.zero_mul, Int.zero_add, Int.one_mul, Int.add_zero] at g4
  exact ⟨_, _, _, _, _, _, g1, g2, g3, g4, fun w => evalPatchI p0 p1 p2 p3 p4 p5 p6 p7 p8 p9 p10 p11 n j (2 * n) w⟩
end Go.Proofs.Ytadjnmldgnaabaa
