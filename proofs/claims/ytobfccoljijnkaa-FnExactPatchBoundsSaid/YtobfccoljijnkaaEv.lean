/- EvalPatch, of the program and of the reference. -/
import Derived.Test.YtobfccoljijnkaaVec6
namespace Go.Proofs.Ytobfccoljijnkaa
open Go.RowKit

/-- The four corners' coordinates, weighed. -/
def evW (a b d e a0 a1 a2 a3 m : Int) : Int := fdZ (a0 * cl a + a1 * cl b + a2 * cl d + a3 * cl e) m
def okE (i j n : Int) : Bool := inB n 1 64 && (inB i 0 n && inB j 0 n)
def evF (a b d e i j n : Int) : Int := if okE i j n then evW a b d e ((n - i) * (n - j)) (i * (n - j)) ((n - i) * j) (i * j) (n * n) else cl a
theorem evF_yes {i j n : Int} (h1 : inB n 1 64 = true) (h2 : inB i 0 n = true) (h3 : inB j 0 n = true) (a b d e : Int) : evF a b d e i j n = evW a b d e ((n - i) * (n - j)) (i * (n - j)) ((n - i) * j) (i * j) (n * n) := by
  unfold evF okE; rw [h1, h2, h3]; rfl
theorem evF_no1 {i j n : Int} (h1 : inB n 1 64 = false) (a b d e : Int) : evF a b d e i j n = cl a := by unfold evF okE; rw [h1]; rfl
theorem evF_no2 {i j n : Int} (h1 : inB n 1 64 = true) (h2 : inB i 0 n = false) (a b d e : Int) : evF a b d e i j n = cl a := by unfold evF okE; rw [h1, h2]; rfl
theorem evF_no3 {i j n : Int} (h1 : inB n 1 64 = true) (h2 : inB i 0 n = true) (h3 : inB j 0 n = false) (a b d e : Int) : evF a b d e i j n = cl a := by unfold evF okE; rw [h1, h2, h3]; rfl
theorem mul3 (a b c : Int) : a * b * c = (b * c) * a := by rw [Int.mul_assoc, Int.mul_comm]
theorem evW_spec (a b d e i j n : Int) : fdZ (cl a * (n - i) * (n - j) + cl b * i * (n - j) + cl d * (n - i) * j + cl e * i * j) (n * n) = evW a b d e ((n - i) * (n - j)) (i * (n - j)) ((n - i) * j) (i * j) (n * n) := by
  unfold evW; rw [mul3 (cl a), mul3 (cl b), mul3 (cl d), mul3 (cl e)]
theorem wt_bd {x y : Int} (h1 : 0 ≤ x) (h2 : x ≤ 64) (h3 : 0 ≤ y) (h4 : y ≤ 64) : 0 ≤ x * y ∧ x * y ≤ 4096 :=
  ⟨Int.mul_nonneg h1 h3, by have := Int.mul_le_mul h2 h4 h3 (by omega : (0 : Int) ≤ 64); omega⟩
theorem sq_bd {n : Int} (h1 : 1 ≤ n) (h2 : n ≤ 64) : 1 ≤ n * n ∧ n * n ≤ 4096 :=
  ⟨by have := Int.mul_pos (show 0 < n by omega) (show 0 < n by omega); omega, (wt_bd (by omega) h2 (by omega) h2).2⟩
theorem cl_mulw (a : Int) {b : Int} (h3 : 0 ≤ b) (h4 : b ≤ 4096) : -4096000000 ≤ b * cl a ∧ b * cl a ≤ 4096000000 := by
  have := cl_mul2 a (b := b) (by omega) h4
  rw [Int.mul_comm]; exact this
theorem mul_bd4 {x y : Int} (h1 : -4096000000 ≤ x) (h2 : x ≤ 4096000000) (h3 : 0 ≤ y) (h4 : y ≤ 64) : -262144000000 ≤ x * y ∧ x * y ≤ 262144000000 := by
  constructor
  · have h5 := Int.mul_le_mul_of_nonneg_right h1 h3
    have h6 : -4096000000 * y ≥ -4096000000 * 64 := by omega
    omega
  · have h5 := Int.mul_le_mul_of_nonneg_right h2 h3
    omega

set_option maxHeartbeats 1000000 in
theorem mean_any (a b d e i j n : Int) (a1 : -1000000 ≤ a) (a2 : a ≤ 1000000) (b1 : -1000000 ≤ b) (b2 : b ≤ 1000000) (d1 : -1000000 ≤ d) (d2 : d ≤ 1000000) (e1 : -1000000 ≤ e) (e2 : e ≤ 1000000)
    (n1 : 1 ≤ n) (n2 : n ≤ 64) (i1 : 0 ≤ i) (i2 : i ≤ n) (j1 : 0 ≤ j) (j2 : j ≤ n) (w : World) :
    Calls Try.prog 66 #[.int .i64 a, .int .i64 b, .int .i64 d, .int .i64 e, .int .i64 i, .int .i64 j, .int .i64 n] w fun r w' => r = .returned (.int .i64 (fdZ (a * (n - i) * (n - j) + b * i * (n - j) + d * (n - i) * j + e * i * j) (n * n))) ∧ w = w' := by
  obtain ⟨x1, x2⟩ := mul_bd2 a1 a2 (b := n - i) (by omega) (by omega)
  obtain ⟨x3, x4⟩ := mul_bd4 x1 x2 (y := n - j) (by omega) (by omega)
  obtain ⟨y1, y2⟩ := mul_bd2 b1 b2 (b := i) (by omega) (by omega)
  obtain ⟨y3, y4⟩ := mul_bd4 y1 y2 (y := n - j) (by omega) (by omega)
  obtain ⟨z1, z2⟩ := mul_bd2 d1 d2 (b := n - i) (by omega) (by omega)
  obtain ⟨z3, z4⟩ := mul_bd4 z1 z2 (y := j) (by omega) (by omega)
  obtain ⟨u1, u2⟩ := mul_bd2 e1 e2 (b := i) (by omega) (by omega)
  obtain ⟨u3, u4⟩ := mul_bd4 u1 u2 (y := j) (by omega) (by omega)
  obtain ⟨s1, s2⟩ := sq_bd n1 n2
  have HF := Lib.hid (floorS (a * (n - i) * (n - j) + b * i * (n - j) + d * (n - i) * j + e * i * j) (n * n) (by omega) (by omega))
  go_enter Try.func66, Try.ntmps66
  go_wp2_with (go_at_call 73; with_reducible refine (HF.out _).mono ?_; rintro r w' ⟨rfl, rfl⟩)
  go_ret
  exact ⟨rfl, rfl⟩
set_option maxHeartbeats 8000000 in
theorem evalPatchS (p0 p1 p2 p3 p4 p5 p6 p7 p8 p9 p10 p11 i j n : Int) (w : World) :
    Calls Try.prog 26 #[.agg #[.int .i64 (p0), .int .i64 (p1), .int .i64 (p2), .int .i64 (p3), .int .i64 (p4), .int .i64 (p5), .int .i64 (p6), .int .i64 (p7), .int .i64 (p8), .int .i64 (p9), .int .i64 (p10), .int .i64 (p11)], .int .i64 i, .int .i64 j, .int .i64 n] w fun r w' => r = .returned (vec (evF p0 p3 p6 p9 i j n) (evF p1 p4 p7 p10 i j n) (evF p2 p5 p8 p11 i j n)) ∧ Below w.heap.size w w' := by
  have hB := below2 w (.cells #[.int .i64 (p0), .int .i64 (p1), .int .i64 (p2), .int .i64 (p3), .int .i64 (p4), .int .i64 (p5), .int .i64 (p6), .int .i64 (p7), .int .i64 (p8), .int .i64 (p9), .int .i64 (p10), .int .i64 (p11)] 50) (.cells #[.int .i64 (0), .int .i64 (0), .int .i64 (0)] 26)
  obtain ⟨b0, b1⟩ := blk2 w #[.int .i64 (p0), .int .i64 (p1), .int .i64 (p2), .int .i64 (p3), .int .i64 (p4), .int .i64 (p5), .int .i64 (p6), .int .i64 (p7), .int .i64 (p8), .int .i64 (p9), .int .i64 (p10), .int .i64 (p11)] #[.int .i64 (0), .int .i64 (0), .int .i64 (0)] 50 26
  go_enter Try.func26, Try.ntmps26
  go_wp2_with fail
  generalize ((w.alloc (.cells #[.int .i64 (p0), .int .i64 (p1), .int .i64 (p2), .int .i64 (p3), .int .i64 (p4), .int .i64 (p5), .int .i64 (p6), .int .i64 (p7), .int .i64 (p8), .int .i64 (p9), .int .i64 (p10), .int .i64 (p11)] 50)).alloc (.cells #[.int .i64 (0), .int .i64 (0), .int .i64 (0)] 26)) = W0 at hB b0 b1 ⊢
  have c0 := b0.cell
  have f0 := b0.frozen
  have l0 := b0.lt
  have c1 := b1.cell
  have f1 := b1.frozen
  have l1 := b1.lt
  refine (l02V_any _ _ _ _).mono ?_
  rintro e w1 ⟨rfl, hb⟩
  have hB := (by with_reducible first | exact b_keep hb hB | exact b_keep hb hB.drew)
  replace b0 : Blk w1 _ _ _ := (by with_reducible first | exact Blk.keep hb b0 | exact Blk.keep hb b0.drew)
  replace b1 : Blk w1 _ _ _ := (by with_reducible first | exact Blk.keep hb b1 | exact Blk.keep hb b1.drew)
  replace l0 := b0.lt
  replace l1 := b1.lt
  replace c0 := b0.cell
  replace c1 := b1.cell
  replace f0 := b0.frozen
  replace f1 := b1.frozen
  clear hb
  go_wp2_with fail
  have d2_0 := b0.lt
  have d2_1 := b1.lt
  have g2 := hB.size
  replace b0 := b0.alloc (.cells #[.int .i64 (cl p0), .int .i64 (cl p1), .int .i64 (cl p2)] 26)
  replace b1 := b1.alloc (.cells #[.int .i64 (cl p0), .int .i64 (cl p1), .int .i64 (cl p2)] 26)
  have b2 := Blk.new w1 26 #[.int .i64 (cl p0), .int .i64 (cl p1), .int .i64 (cl p2)]
  replace hB := hB.alloc hB.size (.cells #[.int .i64 (cl p0), .int .i64 (cl p1), .int .i64 (cl p2)] 26)
  clear c0 f0 l0 c1 f1 l1
  generalize w1.heap.size = q2 at b2 g2 d2_0 d2_1 ⊢
  generalize w1.alloc (.cells #[.int .i64 (cl p0), .int .i64 (cl p1), .int .i64 (cl p2)] 26) = W2 at hB b0 b1 b2 ⊢
  have c0 := b0.cell
  have f0 := b0.frozen
  have l0 := b0.lt
  have c1 := b1.cell
  have f1 := b1.frozen
  have l1 := b1.lt
  have c2 := b2.cell
  have f2 := b2.frozen
  have l2 := b2.lt
  refine (l02V_any _ _ _ _).mono ?_
  rintro e w1 ⟨rfl, hb⟩
  have hB := (by with_reducible first | exact b_keep hb hB | exact b_keep hb hB.drew)
  replace b0 : Blk w1 _ _ _ := (by with_reducible first | exact Blk.keep hb b0 | exact Blk.keep hb b0.drew)
  replace b1 : Blk w1 _ _ _ := (by with_reducible first | exact Blk.keep hb b1 | exact Blk.keep hb b1.drew)
  replace b2 : Blk w1 _ _ _ := (by with_reducible first | exact Blk.keep hb b2 | exact Blk.keep hb b2.drew)
  replace l0 := b0.lt
  replace l1 := b1.lt
  replace l2 := b2.lt
  replace c0 := b0.cell
  replace c1 := b1.cell
  replace c2 := b2.cell
  replace f0 := b0.frozen
  replace f1 := b1.frozen
  replace f2 := b2.frozen
  clear hb
  go_wp2_with fail
  have d3_0 := b0.lt
  have d3_1 := b1.lt
  have d3_2 := b2.lt
  have g3 := hB.size
  replace b0 := b0.alloc (.cells #[.int .i64 (cl p3), .int .i64 (cl p4), .int .i64 (cl p5)] 26)
  replace b1 := b1.alloc (.cells #[.int .i64 (cl p3), .int .i64 (cl p4), .int .i64 (cl p5)] 26)
  replace b2 := b2.alloc (.cells #[.int .i64 (cl p3), .int .i64 (cl p4), .int .i64 (cl p5)] 26)
  have b3 := Blk.new w1 26 #[.int .i64 (cl p3), .int .i64 (cl p4), .int .i64 (cl p5)]
  replace hB := hB.alloc hB.size (.cells #[.int .i64 (cl p3), .int .i64 (cl p4), .int .i64 (cl p5)] 26)
  clear c0 f0 l0 c1 f1 l1 c2 f2 l2
  generalize w1.heap.size = q3 at b3 g3 d3_0 d3_1 d3_2 ⊢
  generalize w1.alloc (.cells #[.int .i64 (cl p3), .int .i64 (cl p4), .int .i64 (cl p5)] 26) = W3 at hB b0 b1 b2 b3 ⊢
  have c0 := b0.cell
  have f0 := b0.frozen
  have l0 := b0.lt
  have c1 := b1.cell
  have f1 := b1.frozen
  have l1 := b1.lt
  have c2 := b2.cell
  have f2 := b2.frozen
  have l2 := b2.lt
  have c3 := b3.cell
  have f3 := b3.frozen
  have l3 := b3.lt
  refine (l02V_any _ _ _ _).mono ?_
  rintro e w1 ⟨rfl, hb⟩
  have hB := (by with_reducible first | exact b_keep hb hB | exact b_keep hb hB.drew)
  replace b0 : Blk w1 _ _ _ := (by with_reducible first | exact Blk.keep hb b0 | exact Blk.keep hb b0.drew)
  replace b1 : Blk w1 _ _ _ := (by with_reducible first | exact Blk.keep hb b1 | exact Blk.keep hb b1.drew)
  replace b2 : Blk w1 _ _ _ := (by with_reducible first | exact Blk.keep hb b2 | exact Blk.keep hb b2.drew)
  replace b3 : Blk w1 _ _ _ := (by with_reducible first | exact Blk.keep hb b3 | exact Blk.keep hb b3.drew)
  replace l0 := b0.lt
  replace l1 := b1.lt
  replace l2 := b2.lt
  replace l3 := b3.lt
  replace c0 := b0.cell
  replace c1 := b1.cell
  replace c2 := b2.cell
  replace c3 := b3.cell
  replace f0 := b0.frozen
  replace f1 := b1.frozen
  replace f2 := b2.frozen
  replace f3 := b3.frozen
  clear hb
  go_wp2_with fail
  have d4_0 := b0.lt
  have d4_1 := b1.lt
  have d4_2 := b2.lt
  have d4_3 := b3.lt
  have g4 := hB.size
  replace b0 := b0.alloc (.cells #[.int .i64 (cl p6), .int .i64 (cl p7), .int .i64 (cl p8)] 26)
  replace b1 := b1.alloc (.cells #[.int .i64 (cl p6), .int .i64 (cl p7), .int .i64 (cl p8)] 26)
  replace b2 := b2.alloc (.cells #[.int .i64 (cl p6), .int .i64 (cl p7), .int .i64 (cl p8)] 26)
  replace b3 := b3.alloc (.cells #[.int .i64 (cl p6), .int .i64 (cl p7), .int .i64 (cl p8)] 26)
  have b4 := Blk.new w1 26 #[.int .i64 (cl p6), .int .i64 (cl p7), .int .i64 (cl p8)]
  replace hB := hB.alloc hB.size (.cells #[.int .i64 (cl p6), .int .i64 (cl p7), .int .i64 (cl p8)] 26)
  clear c0 f0 l0 c1 f1 l1 c2 f2 l2 c3 f3 l3
  generalize w1.heap.size = q4 at b4 g4 d4_0 d4_1 d4_2 d4_3 ⊢
  generalize w1.alloc (.cells #[.int .i64 (cl p6), .int .i64 (cl p7), .int .i64 (cl p8)] 26) = W4 at hB b0 b1 b2 b3 b4 ⊢
  have c0 := b0.cell
  have f0 := b0.frozen
  have l0 := b0.lt
  have c1 := b1.cell
  have f1 := b1.frozen
  have l1 := b1.lt
  have c2 := b2.cell
  have f2 := b2.frozen
  have l2 := b2.lt
  have c3 := b3.cell
  have f3 := b3.frozen
  have l3 := b3.lt
  have c4 := b4.cell
  have f4 := b4.frozen
  have l4 := b4.lt
  refine (l02V_any _ _ _ _).mono ?_
  rintro e w1 ⟨rfl, hb⟩
  have hB := (by with_reducible first | exact b_keep hb hB | exact b_keep hb hB.drew)
  replace b0 : Blk w1 _ _ _ := (by with_reducible first | exact Blk.keep hb b0 | exact Blk.keep hb b0.drew)
  replace b1 : Blk w1 _ _ _ := (by with_reducible first | exact Blk.keep hb b1 | exact Blk.keep hb b1.drew)
  replace b2 : Blk w1 _ _ _ := (by with_reducible first | exact Blk.keep hb b2 | exact Blk.keep hb b2.drew)
  replace b3 : Blk w1 _ _ _ := (by with_reducible first | exact Blk.keep hb b3 | exact Blk.keep hb b3.drew)
  replace b4 : Blk w1 _ _ _ := (by with_reducible first | exact Blk.keep hb b4 | exact Blk.keep hb b4.drew)
  replace l0 := b0.lt
  replace l1 := b1.lt
  replace l2 := b2.lt
  replace l3 := b3.lt
  replace l4 := b4.lt
  replace c0 := b0.cell
  replace c1 := b1.cell
  replace c2 := b2.cell
  replace c3 := b3.cell
  replace c4 := b4.cell
  replace f0 := b0.frozen
  replace f1 := b1.frozen
  replace f2 := b2.frozen
  replace f3 := b3.frozen
  replace f4 := b4.frozen
  clear hb
  go_wp2_with fail
  have d5_0 := b0.lt
  have d5_1 := b1.lt
  have d5_2 := b2.lt
  have d5_3 := b3.lt
  have d5_4 := b4.lt
  have g5 := hB.size
  replace b0 := b0.alloc (.cells #[.int .i64 (cl p9), .int .i64 (cl p10), .int .i64 (cl p11)] 26)
  replace b1 := b1.alloc (.cells #[.int .i64 (cl p9), .int .i64 (cl p10), .int .i64 (cl p11)] 26)
  replace b2 := b2.alloc (.cells #[.int .i64 (cl p9), .int .i64 (cl p10), .int .i64 (cl p11)] 26)
  replace b3 := b3.alloc (.cells #[.int .i64 (cl p9), .int .i64 (cl p10), .int .i64 (cl p11)] 26)
  replace b4 := b4.alloc (.cells #[.int .i64 (cl p9), .int .i64 (cl p10), .int .i64 (cl p11)] 26)
  have b5 := Blk.new w1 26 #[.int .i64 (cl p9), .int .i64 (cl p10), .int .i64 (cl p11)]
  replace hB := hB.alloc hB.size (.cells #[.int .i64 (cl p9), .int .i64 (cl p10), .int .i64 (cl p11)] 26)
  clear c0 f0 l0 c1 f1 l1 c2 f2 l2 c3 f3 l3 c4 f4 l4
  generalize w1.heap.size = q5 at b5 g5 d5_0 d5_1 d5_2 d5_3 d5_4 ⊢
  generalize w1.alloc (.cells #[.int .i64 (cl p9), .int .i64 (cl p10), .int .i64 (cl p11)] 26) = W5 at hB b0 b1 b2 b3 b4 b5 ⊢
  have c0 := b0.cell
  have f0 := b0.frozen
  have l0 := b0.lt
  have c1 := b1.cell
  have f1 := b1.frozen
  have l1 := b1.lt
  have c2 := b2.cell
  have f2 := b2.frozen
  have l2 := b2.lt
  have c3 := b3.cell
  have f3 := b3.frozen
  have l3 := b3.lt
  have c4 := b4.cell
  have f4 := b4.frozen
  have l4 := b4.lt
  have c5 := b5.cell
  have f5 := b5.frozen
  have l5 := b5.lt
  refine (l01In_any _ _ _ _).mono ?_
  rintro r w2 ⟨rfl, rfl⟩
  cases h1 : inB n 1 64
  · have HE := Lib.hid (evF_no1 (i := i) (j := j) h1)
    go_wp2
    exact bodyPost_ret (v := vec (evF p0 p3 p6 p9 i j n) (evF p1 p4 p7 p10 i j n) (evF p2 p5 p8 p11 i j n)) (by simp [results, Try.results26, go_sem, c1, HE.out]) rfl ⟨rfl, (((hB.setCell (by dsimp only; omega) _).setCell (by dsimp only; omega) _).setCell (by dsimp only; omega) _)⟩
  · cases h2 : inB i 0 n
    · have HE := Lib.hid (evF_no2 (j := j) h1 h2)
      go_wp2_with (go_at_call 51; refine (l01In_any _ _ _ _).mono ?_; rintro r w' ⟨rfl, rfl⟩)
      exact bodyPost_ret (v := vec (evF p0 p3 p6 p9 i j n) (evF p1 p4 p7 p10 i j n) (evF p2 p5 p8 p11 i j n)) (by simp [results, Try.results26, go_sem, c1, HE.out]) rfl ⟨rfl, (((hB.setCell (by dsimp only; omega) _).setCell (by dsimp only; omega) _).setCell (by dsimp only; omega) _)⟩
    · cases h3 : inB j 0 n
      · have HE := Lib.hid (evF_no3 h1 h2 h3)
        go_wp2_with (go_at_call 51; refine (l01In_any _ _ _ _).mono ?_; rintro r w' ⟨rfl, rfl⟩)
        exact bodyPost_ret (v := vec (evF p0 p3 p6 p9 i j n) (evF p1 p4 p7 p10 i j n) (evF p2 p5 p8 p11 i j n)) (by simp [results, Try.results26, go_sem, c1, HE.out]) rfl ⟨rfl, (((hB.setCell (by dsimp only; omega) _).setCell (by dsimp only; omega) _).setCell (by dsimp only; omega) _)⟩
      · have HE := Lib.hid (fun a b d e => (evF_yes h1 h2 h3 a b d e).trans (evW_spec a b d e i j n).symm)
        obtain ⟨n1, n2⟩ := inB_iff.1 h1
        obtain ⟨i1, i2⟩ := inB_iff.1 h2
        obtain ⟨j1, j2⟩ := inB_iff.1 h3
        have HM0 := Lib.hid (mean_any (cl p0) (cl p3) (cl p6) (cl p9) i j n (cl_bd p0).1 (cl_bd p0).2 (cl_bd p3).1 (cl_bd p3).2 (cl_bd p6).1 (cl_bd p6).2 (cl_bd p9).1 (cl_bd p9).2 n1 n2 i1 i2 j1 j2)
        have HM1 := Lib.hid (mean_any (cl p1) (cl p4) (cl p7) (cl p10) i j n (cl_bd p1).1 (cl_bd p1).2 (cl_bd p4).1 (cl_bd p4).2 (cl_bd p7).1 (cl_bd p7).2 (cl_bd p10).1 (cl_bd p10).2 n1 n2 i1 i2 j1 j2)
        have HM2 := Lib.hid (mean_any (cl p2) (cl p5) (cl p8) (cl p11) i j n (cl_bd p2).1 (cl_bd p2).2 (cl_bd p5).1 (cl_bd p5).2 (cl_bd p8).1 (cl_bd p8).2 (cl_bd p11).1 (cl_bd p11).2 n1 n2 i1 i2 j1 j2)
        clear n1 n2 i1 i2 j1 j2
        go_wp2_with (go_at_call 51; refine (l01In_any _ _ _ _).mono ?_; rintro r w' ⟨rfl, rfl⟩)
        go_region_held3 (fun w' => (∀ i, w'.cell? ⟨q2, i, none⟩ = (#[.int .i64 (cl p0), .int .i64 (cl p1), .int .i64 (cl p2)] : Array Value)[i]?) ∧ (∀ i, w'.cell? ⟨q3, i, none⟩ = (#[.int .i64 (cl p3), .int .i64 (cl p4), .int .i64 (cl p5)] : Array Value)[i]?) ∧ (∀ i, w'.cell? ⟨q4, i, none⟩ = (#[.int .i64 (cl p6), .int .i64 (cl p7), .int .i64 (cl p8)] : Array Value)[i]?) ∧ (∀ i, w'.cell? ⟨q5, i, none⟩ = (#[.int .i64 (cl p9), .int .i64 (cl p10), .int .i64 (cl p11)] : Array Value)[i]?)) (first | with_reducible exact ⟨b2.cell, b3.cell, b4.cell, b5.cell⟩ | with_reducible exact ⟨b2.drew.cell, b3.drew.cell, b4.drew.cell, b5.drew.cell⟩ | with_reducible exact ⟨(b2.alloc _).cell, (b3.alloc _).cell, (b4.alloc _).cell, (b5.alloc _).cell⟩ | with_reducible exact ⟨(b2.alloc _).drew.cell, (b3.alloc _).drew.cell, (b4.alloc _).drew.cell, (b5.alloc _).drew.cell⟩ | exact ⟨(b2.far3 (by omega) _ _ _).cell, (b3.far3 (by omega) _ _ _).cell, (b4.far3 (by omega) _ _ _).cell, (b5.far3 (by omega) _ _ _).cell⟩ | exact ⟨(b2.far3 (by omega) _ _ _).drew.cell, (b3.far3 (by omega) _ _ _).drew.cell, (b4.far3 (by omega) _ _ _).drew.cell, (b5.far3 (by omega) _ _ _).drew.cell⟩ | go_keep)
          (first
            | (go_at_call 66; (first | (with_reducible refine (HM0.out _).mono ?_) | (with_reducible refine (HM1.out _).mono ?_) | (with_reducible refine (HM2.out _).mono ?_)); rintro r w' ⟨rfl, rfl⟩))
        go_wp2
        exact bodyPost_ret (v := vec (evF p0 p3 p6 p9 i j n) (evF p1 p4 p7 p10 i j n) (evF p2 p5 p8 p11 i j n)) (by simp [results, Try.results26, go_sem, c1, HE.out]) rfl ⟨rfl, (((hB.setCell (by dsimp only; omega) _).setCell (by dsimp only; omega) _).setCell (by dsimp only; omega) _).drew⟩
end Go.Proofs.Ytobfccoljijnkaa
