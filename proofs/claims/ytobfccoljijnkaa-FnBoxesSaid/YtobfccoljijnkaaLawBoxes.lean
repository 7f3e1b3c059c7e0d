/- A union contains both boxes, and overlapping is symmetric, for all bytes. No condition. -/
import Derived.Test.YtobfccoljijnkaaBase
import Derived.Test.YtobfccoljijnkaaOpenB
import Derived.Test.YtobfccoljijnkaaCurB
import Derived.Test.YtobfccoljijnkaaBndI
import Derived.Test.YtobfccoljijnkaaBox2
namespace Go.Proofs.Ytobfccoljijnkaa
open Go.ChangeShapes Go.WideShapes Go.ChangeAt Go.RowKit

theorem ovB_comm (a b c d e f a' b' c' d' e' f' : Int) : ovB a b c d e f a' b' c' d' e' f' = ovB a' b' c' d' e' f' a b c d e f := by
  unfold ovB mnZ mxZ
  rw [Int.max_comm a, Int.max_comm b, Int.max_comm c, Int.min_comm d, Int.min_comm e, Int.min_comm f]
theorem hasB_t {a b c d e f x y z : Int} (h1 : a ≤ x ∧ b ≤ y ∧ c ≤ z) (h2 : x ≤ d ∧ y ≤ e ∧ z ≤ f) : hasB a b c d e f x y z = true := by
  unfold hasB; rw [leB_mk h1, leB_mk h2]; rfl
theorem has_true {a b c d e f x y z : Int} (h : hasB a b c d e f x y z = true) (w : World) :
    Calls Try.prog 48 #[.agg #[.int .i64 (a), .int .i64 (b), .int .i64 (c), .int .i64 (d), .int .i64 (e), .int .i64 (f)], .agg #[.int .i64 (x), .int .i64 (y), .int .i64 (z)]] w fun e1 w' => e1 = .returned (.bool true) ∧ Below w.heap.size w w' := by
  have := boxContainsI a b c d e f x y z w
  rw [h] at this
  exact this
theorem ov_is {a b c d e f a' b' c' d' e' f' : Int} {t : Bool} (h : ovB a b c d e f a' b' c' d' e' f' = t) (w : World) :
    Calls Try.prog 49 #[.agg #[.int .i64 (a), .int .i64 (b), .int .i64 (c), .int .i64 (d), .int .i64 (e), .int .i64 (f)], .agg #[.int .i64 (a'), .int .i64 (b'), .int .i64 (c'), .int .i64 (d'), .int .i64 (e'), .int .i64 (f')]] w fun r w' => r = .returned (.bool t) ∧ Below w.heap.size w w' := by
  have := boxesOverlapI a b c d e f a' b' c' d' e' f' w
  rw [h] at this
  exact this
theorem add2 {x y z : Int} (hx : -100 ≤ x ∧ x ≤ 299) (hy : -100 ≤ y ∧ y ≤ 299) (hz : -100 ≤ z ∧ z ≤ 299) (w : World) :
    Calls Try.prog 50 #[.agg #[.int .i64 (x), .int .i64 (y), .int .i64 (z)], .agg #[.int .i64 (2), .int .i64 (0), .int .i64 (0)]] w fun e w' => e = .returned (vec (x + 2) y z) ∧ Below w.heap.size w w' := by
  have h := addI x y z 2 0 0 w
  rw [cl_id (n := x) (by omega) (by omega), cl_id (n := y) (by omega) (by omega), cl_id (n := z) (by omega) (by omega), cl_id (n := 2) (by omega) (by omega), cl_id (n := 0) (by omega) (by omega), Int.add_zero, Int.add_zero,
    cl_id (n := x + 2) (by omega) (by omega), cl_id (n := y) (by omega) (by omega), cl_id (n := z) (by omega) (by omega)] at h
  exact h
theorem exL2 {a : Int} (h : -100 ≤ a ∧ a ≤ 299) : exL a 2 = a - 2 := by
  rw [exL_yes (by rw [inB_iff]; omega), cl_id (n := a) (by omega) (by omega), cl_id (n := 2) (by omega) (by omega), cl_id (by omega) (by omega)]
theorem exH2 {a : Int} (h : -100 ≤ a ∧ a ≤ 299) : exH a 2 = a + 2 := by
  rw [exH_yes (by rw [inB_iff]; omega), cl_id (n := a) (by omega) (by omega), cl_id (n := 2) (by omega) (by omega), cl_id (by omega) (by omega)]
theorem expand2 {a b c d e f : Int} (h : SmallBox a b c d e f) (w : World) :
    Calls Try.prog 16 #[.agg #[.int .i64 (a), .int .i64 (b), .int .i64 (c), .int .i64 (d), .int .i64 (e), .int .i64 (f)], .int .i64 2] w fun r w' => r = .returned (.agg #[.int .i64 (a - 2), .int .i64 (b - 2), .int .i64 (c - 2), .int .i64 (d + 2), .int .i64 (e + 2), .int .i64 (f + 2)]) ∧ Below w.heap.size w w' := by
  unfold SmallBox at h
  have h' := expandI a b c d e f 2 w
  rw [exL2 (by omega), exL2 (by omega), exL2 (by omega), exH2 (by omega), exH2 (by omega), exH2 (by omega)] at h'
  exact h'
/-- The union, named. -/
theorem union_small {a0 a1 a2 a3 a4 a5 e0 e1 e2 e3 e4 e5 : Int} (ha : SmallBox a0 a1 a2 a3 a4 a5) (hb : SmallBox e0 e1 e2 e3 e4 e5) : ∃ u0 u1 u2 u3 u4 u5 : Int,
    (∀ w, Calls Try.prog 19 #[.agg #[.int .i64 (a0), .int .i64 (a1), .int .i64 (a2), .int .i64 (a3), .int .i64 (a4), .int .i64 (a5)], .agg #[.int .i64 (e0), .int .i64 (e1), .int .i64 (e2), .int .i64 (e3), .int .i64 (e4), .int .i64 (e5)]] w fun r w' => r = .returned (.agg #[.int .i64 (u0), .int .i64 (u1), .int .i64 (u2), .int .i64 (u3), .int .i64 (u4), .int .i64 (u5)]) ∧ Below w.heap.size w w') ∧
    hasB u0 u1 u2 u3 u4 u5 a0 a1 a2 = true ∧ hasB u0 u1 u2 u3 u4 u5 e3 e4 e5 = true ∧ ovB a0 a1 a2 a3 a4 a5 u0 u1 u2 u3 u4 u5 = true := by
  refine ⟨_, _, _, _, _, _, fun w => unionI a0 a1 a2 a3 a4 a5 e0 e1 e2 e3 e4 e5 w, ?_, ?_, ?_⟩
  all_goals
    unfold SmallBox at ha hb
    rw [cl_id (n := a0) (by omega) (by omega), cl_id (n := a1) (by omega) (by omega), cl_id (n := a2) (by omega) (by omega), cl_id (n := a3) (by omega) (by omega), cl_id (n := a4) (by omega) (by omega), cl_id (n := a5) (by omega) (by omega), cl_id (n := e0) (by omega) (by omega), cl_id (n := e1) (by omega) (by omega), cl_id (n := e2) (by omega) (by omega), cl_id (n := e3) (by omega) (by omega), cl_id (n := e4) (by omega) (by omega), cl_id (n := e5) (by omega) (by omega)]
  · exact hasB_t (by unfold mnZ; omega) (by unfold mxZ; omega)
  · exact hasB_t (by unfold mnZ; omega) (by unfold mxZ; omega)
  · unfold ovB
    exact leB_mk (by unfold mnZ mxZ; omega)
/-- The box around two points, named. -/
theorem bound_two {x0 x1 x2 y0 y1 y2 : Int} (h0 : -100 ≤ x0 ∧ x0 ≤ 299) (h1 : -100 ≤ x1 ∧ x1 ≤ 299) (h2 : -100 ≤ x2 ∧ x2 ≤ 299) (k0 : -100 ≤ y0 ∧ y0 ≤ 299) (k1 : -100 ≤ y1 ∧ y1 ≤ 299) (k2 : -100 ≤ y2 ∧ y2 ≤ 299) : ∃ t0 t1 t2 t3 t4 t5 : Int,
    (∀ (v : Value) (w : World), TriAt w v 2 (two x0 y0) (two x1 y1) (two x2 y2) → Calls Try.prog 43 #[v] w fun r w' => r = .returned (.tuple #[.agg #[.int .i64 (t0), .int .i64 (t1), .int .i64 (t2), .int .i64 (t3), .int .i64 (t4), .int .i64 (t5)], .bool true]) ∧ Below w.heap.size w w') ∧
    SmallBox t0 t1 t2 t3 t4 t5 ∧ hasB t0 t1 t2 t3 t4 t5 x0 x1 x2 = true ∧ hasB t0 t1 t2 t3 t4 t5 y0 y1 y2 = true ∧ hasB (t0 - 2) (t1 - 2) (t2 - 2) (t3 + 2) (t4 + 2) (t5 + 2) (x0 + 2) x1 x2 = true := by
  refine ⟨min x0 y0, min x1 y1, min x2 y2, max x0 y0, max x1 y1, max x2 y2, fun v w ht => ?_, by unfold SmallBox; omega, hasB_t (by omega) (by omega), hasB_t (by omega) (by omega), hasB_t (by omega) (by omega)⟩
  have h := boundI v 2 (two x0 y0) (two x1 y1) (two x2 y2) w ht (by omega)
  rw [lo_two h0 k0, lo_two h1 k1, lo_two h2 k2, hi_two h0 k0, hi_two h1 k1, hi_two h2 k2] at h
  exact h
set_option maxRecDepth 100000 in
set_option maxHeartbeats 16000000 in
theorem lawBoxes (v : Value) (n : Nat) (bs : Nat → Int) (w : World) (h : BytesAt w w.heap.size v n bs) (hm : n ≤ maxLen) :
    Calls Try.prog 13 #[v] w fun e w' => e = .returned (.bool true) ∧ Below w.heap.size w w' := by
  unfold maxLen at hm
  have h0 := h
  obtain ⟨hbs, a, cap, rfl, hc⟩ := h
  clear hbs hc
  by_cases hbig : 1048576 < (n : Int)
  · clear h0
    go_enter Try.func13, Try.ntmps13
    go_wp2
    go_ret
    exact ⟨rfl, Below.refl _ _⟩
  · have hn : n ≤ 1048576 := by omega
    have H0 := Lib.hid h0
    clear h0
    have hB : Below w.heap.size w w := Below.refl _ _
    go_enter Try.func13, Try.ntmps13
    go_wp2_with fail
    clear hbig hm
    refine (makeBox_any 0 w _ _ n bs (by omega) (by omega) (Nat.le_refl _) hn H0.out).mono ?_
    rintro r w1 ⟨a0, a1, a2, a3, a4, a5, rfl, hS, hb⟩
    have SA := Lib.hid hS
    replace hB := b_keep hb hB
    clear hb hS
    go_wp2_with fail
    have g0 := hB.size
    have b0 := Blk.new w1 28 #[.int .i64 (a0), .int .i64 (a1), .int .i64 (a2), .int .i64 (a3), .int .i64 (a4), .int .i64 (a5)]
    replace hB := hB.alloc hB.size (.cells #[.int .i64 (a0), .int .i64 (a1), .int .i64 (a2), .int .i64 (a3), .int .i64 (a4), .int .i64 (a5)] 28)
    generalize w1.heap.size = q0 at b0 g0  ⊢
    generalize w1.alloc (.cells #[.int .i64 (a0), .int .i64 (a1), .int .i64 (a2), .int .i64 (a3), .int .i64 (a4), .int .i64 (a5)] 28) = W0 at hB b0 ⊢
    have c0 := b0.cell
    have f0 := b0.frozen
    have l0 := b0.lt
    refine (makeBox_any 1 _ _ _ n bs (by omega) (by omega) hB.size hn (H0.out.keep hB)).mono ?_
    rintro r w1 ⟨e0, e1, e2, e3, e4, e5, rfl, hS, hb⟩
    have SB := Lib.hid hS
    clear hS
    have hB := (by with_reducible first | exact b_keep hb hB | exact b_keep hb hB.drew)
    replace b0 : Blk w1 _ _ _ := (by with_reducible first | exact Blk.keep hb b0 | exact Blk.keep hb b0.drew)
    replace l0 := b0.lt
    replace c0 := b0.cell
    replace f0 := b0.frozen
    clear hb
    obtain ⟨u0, u1, u2, u3, u4, u5, HU, g1, g2, g3⟩ := union_small SA.out SB.out
    have HU1 := Lib.hid HU
    have G1 := Lib.hid (has_true g1)
    have G2 := Lib.hid (has_true g2)
    have G3 := Lib.hid (ov_is g3)
    obtain ⟨ov, hov⟩ : ∃ t, ovB a0 a1 a2 a3 a4 a5 e0 e1 e2 e3 e4 e5 = t := ⟨_, rfl⟩
    have G4 := Lib.hid (ov_is hov)
    have G5 := Lib.hid (ov_is ((ovB_comm e0 e1 e2 e3 e4 e5 a0 a1 a2 a3 a4 a5).trans hov))
    clear HU g1 g2 g3 hov SA SB
    go_wp2_with fail
    have d1_0 := b0.lt
    have g1 := hB.size
    replace b0 := b0.alloc (.cells #[.int .i64 (e0), .int .i64 (e1), .int .i64 (e2), .int .i64 (e3), .int .i64 (e4), .int .i64 (e5)] 28)
    have b1 := Blk.new w1 28 #[.int .i64 (e0), .int .i64 (e1), .int .i64 (e2), .int .i64 (e3), .int .i64 (e4), .int .i64 (e5)]
    replace hB := hB.alloc hB.size (.cells #[.int .i64 (e0), .int .i64 (e1), .int .i64 (e2), .int .i64 (e3), .int .i64 (e4), .int .i64 (e5)] 28)
    clear c0 f0 l0
    generalize w1.heap.size = q1 at b1 g1 d1_0 ⊢
    generalize w1.alloc (.cells #[.int .i64 (e0), .int .i64 (e1), .int .i64 (e2), .int .i64 (e3), .int .i64 (e4), .int .i64 (e5)] 28) = W1 at hB b0 b1 ⊢
    have c0 := b0.cell
    have f0 := b0.frozen
    have l0 := b0.lt
    have c1 := b1.cell
    have f1 := b1.frozen
    have l1 := b1.lt
    refine (HU1.out _).mono ?_
    rintro e w1 ⟨rfl, hb⟩
    have hB := (by with_reducible first | exact b_keep hb hB | exact b_keep hb hB.drew)
    replace b0 : Blk w1 _ _ _ := (by with_reducible first | exact Blk.keep hb b0 | exact Blk.keep hb b0.drew)
    replace b1 : Blk w1 _ _ _ := (by with_reducible first | exact Blk.keep hb b1 | exact Blk.keep hb b1.drew)
    replace l0 := b0.lt
    replace l1 := b1.lt
    replace c0 := b0.cell
    replace c1 := b1.cell
    replace f0 := b0.frozen
    replace f1 := b1.frozen
    clear hb
    clear HU1
    go_wp2_with fail
    have d2_0 := b0.lt
    have d2_1 := b1.lt
    have g2 := hB.size
    replace b0 := b0.alloc (.cells #[.int .i64 (u0), .int .i64 (u1), .int .i64 (u2), .int .i64 (u3), .int .i64 (u4), .int .i64 (u5)] 28)
    replace b1 := b1.alloc (.cells #[.int .i64 (u0), .int .i64 (u1), .int .i64 (u2), .int .i64 (u3), .int .i64 (u4), .int .i64 (u5)] 28)
    have b2 := Blk.new w1 28 #[.int .i64 (u0), .int .i64 (u1), .int .i64 (u2), .int .i64 (u3), .int .i64 (u4), .int .i64 (u5)]
    replace hB := hB.alloc hB.size (.cells #[.int .i64 (u0), .int .i64 (u1), .int .i64 (u2), .int .i64 (u3), .int .i64 (u4), .int .i64 (u5)] 28)
    clear c0 f0 l0 c1 f1 l1
    generalize w1.heap.size = q2 at b2 g2 d2_0 d2_1 ⊢
    generalize w1.alloc (.cells #[.int .i64 (u0), .int .i64 (u1), .int .i64 (u2), .int .i64 (u3), .int .i64 (u4), .int .i64 (u5)] 28) = W2 at hB b0 b1 b2 ⊢
    have c0 := b0.cell
    have f0 := b0.frozen
    have l0 := b0.lt
    have c1 := b1.cell
    have f1 := b1.frozen
    have l1 := b1.lt
    have c2 := b2.cell
    have f2 := b2.frozen
    have l2 := b2.lt
    refine (makeVec_any 0 _ _ _ n bs (by omega) (by omega) hB.size hn (H0.out.keep hB)).mono ?_
    rintro r w1 ⟨x0, x1, x2, rfl, hx0, hx1, hx2, hb⟩
    have X0 := Lib.hid hx0
    have X1 := Lib.hid hx1
    have X2 := Lib.hid hx2
    clear hx0 hx1 hx2
    have hB := (by with_reducible first | exact b_keep hb hB | exact b_keep hb hB.drew)
    replace b0 : Blk w1 _ _ _ := (by with_reducible first | exact Blk.keep hb b0 | exact Blk.keep hb b0.drew)
    replace b1 : Blk w1 _ _ _ := (by with_reducible first | exact Blk.keep hb b1 | exact Blk.keep hb b1.drew)
    replace b2 : Blk w1 _ _ _ := (by with_reducible first | exact Blk.keep hb b2 | exact Blk.keep hb b2.drew)
    replace l0 := b0.lt
    replace l1 := b1.lt
    replace l2 := b2.lt
    replace c0 := b0.cell
    replace c1 := b1.cell
    replace c2 := b2.cell
    replace f0 := b0.frozen
    replace f1 := b1.frozen
    replace f2 := b2.frozen
    clear hb
    go_wp2_with fail
    have d3_0 := b0.lt
    have d3_1 := b1.lt
    have d3_2 := b2.lt
    have g3 := hB.size
    replace b0 := b0.alloc (.cells #[.int .i64 (x0), .int .i64 (x1), .int .i64 (x2)] 26)
    replace b1 := b1.alloc (.cells #[.int .i64 (x0), .int .i64 (x1), .int .i64 (x2)] 26)
    replace b2 := b2.alloc (.cells #[.int .i64 (x0), .int .i64 (x1), .int .i64 (x2)] 26)
    have b3 := Blk.new w1 26 #[.int .i64 (x0), .int .i64 (x1), .int .i64 (x2)]
    replace hB := hB.alloc hB.size (.cells #[.int .i64 (x0), .int .i64 (x1), .int .i64 (x2)] 26)
    clear c0 f0 l0 c1 f1 l1 c2 f2 l2
    generalize w1.heap.size = q3 at b3 g3 d3_0 d3_1 d3_2 ⊢
    generalize w1.alloc (.cells #[.int .i64 (x0), .int .i64 (x1), .int .i64 (x2)] 26) = W3 at hB b0 b1 b2 b3 ⊢
    have c0 := b0.cell
    have f0 := b0.frozen
    have l0 := b0.lt
    have c1 := b1.cell
    have f1 := b1.frozen
    have l1 := b1.lt
    have c2 := b2.cell
    have f2 := b2.frozen
    have l2 := b2.lt
    have c3 := b3.cell
    have f3 := b3.frozen
    have l3 := b3.lt
    refine (makeVec_any 1 _ _ _ n bs (by omega) (by omega) hB.size hn (H0.out.keep hB)).mono ?_
    rintro r w1 ⟨y0, y1, y2, rfl, hx0, hx1, hx2, hb⟩
    obtain ⟨t0, t1, t2, t3, t4, t5, HP, g0, g1, g2, g3⟩ := bound_two X0.out X1.out X2.out hx0 hx1 hx2
    have HP1 := Lib.hid HP
    have G6 := Lib.hid (has_true g1)
    have G7 := Lib.hid (has_true g2)
    have G8 := Lib.hid (expand2 g0)
    have G9 := Lib.hid (add2 X0.out X1.out X2.out)
    have G10 := Lib.hid (has_true g3)
    clear hx0 hx1 hx2 HP g0 g1 g2 g3 X0 X1 X2 H0 hn
    have hB := (by with_reducible first | exact b_keep hb hB | exact b_keep hb hB.drew)
    replace b0 : Blk w1 _ _ _ := (by with_reducible first | exact Blk.keep hb b0 | exact Blk.keep hb b0.drew)
    replace b1 : Blk w1 _ _ _ := (by with_reducible first | exact Blk.keep hb b1 | exact Blk.keep hb b1.drew)
    replace b2 : Blk w1 _ _ _ := (by with_reducible first | exact Blk.keep hb b2 | exact Blk.keep hb b2.drew)
    replace b3 : Blk w1 _ _ _ := (by with_reducible first | exact Blk.keep hb b3 | exact Blk.keep hb b3.drew)
    replace l0 := b0.lt
    replace l1 := b1.lt
    replace l2 := b2.lt
    replace l3 := b3.lt
    replace c0 := b0.cell
    replace c1 := b1.cell
    replace c2 := b2.cell
    replace c3 := b3.cell
    replace f0 := b0.frozen
    replace f1 := b1.frozen
    replace f2 := b2.frozen
    replace f3 := b3.frozen
    clear hb
    go_wp2_with fail
    have hs4 : (w1.alloc (.cells #[.int .i64 (y0), .int .i64 (y1), .int .i64 (y2)] 26)).heap.size = w1.heap.size + 1 := by simp
    revert hs4
    have d4_0 := b0.lt
    have d4_1 := b1.lt
    have d4_2 := b2.lt
    have d4_3 := b3.lt
    have g4 := hB.size
    replace b0 := b0.alloc (.cells #[.int .i64 (y0), .int .i64 (y1), .int .i64 (y2)] 26)
    replace b1 := b1.alloc (.cells #[.int .i64 (y0), .int .i64 (y1), .int .i64 (y2)] 26)
    replace b2 := b2.alloc (.cells #[.int .i64 (y0), .int .i64 (y1), .int .i64 (y2)] 26)
    replace b3 := b3.alloc (.cells #[.int .i64 (y0), .int .i64 (y1), .int .i64 (y2)] 26)
    have b4 := Blk.new w1 26 #[.int .i64 (y0), .int .i64 (y1), .int .i64 (y2)]
    replace hB := hB.alloc hB.size (.cells #[.int .i64 (y0), .int .i64 (y1), .int .i64 (y2)] 26)
    clear c0 f0 l0 c1 f1 l1 c2 f2 l2 c3 f3 l3
    generalize w1.heap.size = q4 at b4 g4 d4_0 d4_1 d4_2 d4_3 ⊢
    generalize w1.alloc (.cells #[.int .i64 (y0), .int .i64 (y1), .int .i64 (y2)] 26) = W4 at hB b0 b1 b2 b3 b4 ⊢
    have c0 := b0.cell
    have f0 := b0.frozen
    have l0 := b0.lt
    have c1 := b1.cell
    have f1 := b1.frozen
    have l1 := b1.lt
    have c2 := b2.cell
    have f2 := b2.frozen
    have l2 := b2.lt
    have c3 := b3.cell
    have f3 := b3.frozen
    have l3 := b3.lt
    have c4 := b4.cell
    have f4 := b4.frozen
    have l4 := b4.lt
    intro hs4
    have tt := triAt_two (Blk.new W4 26 #[.int .i64 (x0), .int .i64 (x1), .int .i64 (x2), .int .i64 (y0), .int .i64 (y1), .int .i64 (y2)])
    rw [hs4] at tt
    replace b0 := b0.alloc (.cells #[.int .i64 (x0), .int .i64 (x1), .int .i64 (x2), .int .i64 (y0), .int .i64 (y1), .int .i64 (y2)] 26)
    replace b1 := b1.alloc (.cells #[.int .i64 (x0), .int .i64 (x1), .int .i64 (x2), .int .i64 (y0), .int .i64 (y1), .int .i64 (y2)] 26)
    replace b2 := b2.alloc (.cells #[.int .i64 (x0), .int .i64 (x1), .int .i64 (x2), .int .i64 (y0), .int .i64 (y1), .int .i64 (y2)] 26)
    replace b3 := b3.alloc (.cells #[.int .i64 (x0), .int .i64 (x1), .int .i64 (x2), .int .i64 (y0), .int .i64 (y1), .int .i64 (y2)] 26)
    replace b4 := b4.alloc (.cells #[.int .i64 (x0), .int .i64 (x1), .int .i64 (x2), .int .i64 (y0), .int .i64 (y1), .int .i64 (y2)] 26)
    replace hB := hB.alloc hB.size (.cells #[.int .i64 (x0), .int .i64 (x1), .int .i64 (x2), .int .i64 (y0), .int .i64 (y1), .int .i64 (y2)] 26)
    clear hs4 c0 c1 c2 c3 c4 f0 f1 f2 f3 f4 l0 l1 l2 l3 l4
    revert tt
    generalize W4.alloc (.cells #[.int .i64 (x0), .int .i64 (x1), .int .i64 (x2), .int .i64 (y0), .int .i64 (y1), .int .i64 (y2)] 26) = W5 at hB b0 b1 b2 b3 b4 ⊢
    intro tt
    have c0 := b0.cell
    have f0 := b0.frozen
    have l0 := b0.lt
    have c1 := b1.cell
    have f1 := b1.frozen
    have l1 := b1.lt
    have c2 := b2.cell
    have f2 := b2.frozen
    have l2 := b2.lt
    have c3 := b3.cell
    have f3 := b3.frozen
    have l3 := b3.lt
    have c4 := b4.cell
    have f4 := b4.frozen
    have l4 := b4.lt
    refine (HP1.out _ _ tt).mono ?_
    rintro e w1 ⟨rfl, hb⟩
    have hB := (by with_reducible first | exact b_keep hb hB | exact b_keep hb hB.drew)
    replace b0 : Blk w1 _ _ _ := (by with_reducible first | exact Blk.keep hb b0 | exact Blk.keep hb b0.drew)
    replace b1 : Blk w1 _ _ _ := (by with_reducible first | exact Blk.keep hb b1 | exact Blk.keep hb b1.drew)
    replace b2 : Blk w1 _ _ _ := (by with_reducible first | exact Blk.keep hb b2 | exact Blk.keep hb b2.drew)
    replace b3 : Blk w1 _ _ _ := (by with_reducible first | exact Blk.keep hb b3 | exact Blk.keep hb b3.drew)
    replace b4 : Blk w1 _ _ _ := (by with_reducible first | exact Blk.keep hb b4 | exact Blk.keep hb b4.drew)
    replace l0 := b0.lt
    replace l1 := b1.lt
    replace l2 := b2.lt
    replace l3 := b3.lt
    replace l4 := b4.lt
    replace c0 := b0.cell
    replace c1 := b1.cell
    replace c2 := b2.cell
    replace c3 := b3.cell
    replace c4 := b4.cell
    replace f0 := b0.frozen
    replace f1 := b1.frozen
    replace f2 := b2.frozen
    replace f3 := b3.frozen
    replace f4 := b4.frozen
    clear hb
    clear HP1 tt
    go_upto_region 9 with fail
    have d5_0 := b0.lt
    have d5_1 := b1.lt
    have d5_2 := b2.lt
    have d5_3 := b3.lt
    have d5_4 := b4.lt
    have g5 := hB.size
    replace b0 := b0.alloc (.cells #[.int .i64 (t0), .int .i64 (t1), .int .i64 (t2), .int .i64 (t3), .int .i64 (t4), .int .i64 (t5)] 28)
    replace b1 := b1.alloc (.cells #[.int .i64 (t0), .int .i64 (t1), .int .i64 (t2), .int .i64 (t3), .int .i64 (t4), .int .i64 (t5)] 28)
    replace b2 := b2.alloc (.cells #[.int .i64 (t0), .int .i64 (t1), .int .i64 (t2), .int .i64 (t3), .int .i64 (t4), .int .i64 (t5)] 28)
    replace b3 := b3.alloc (.cells #[.int .i64 (t0), .int .i64 (t1), .int .i64 (t2), .int .i64 (t3), .int .i64 (t4), .int .i64 (t5)] 28)
    replace b4 := b4.alloc (.cells #[.int .i64 (t0), .int .i64 (t1), .int .i64 (t2), .int .i64 (t3), .int .i64 (t4), .int .i64 (t5)] 28)
    have b5 := Blk.new w1 28 #[.int .i64 (t0), .int .i64 (t1), .int .i64 (t2), .int .i64 (t3), .int .i64 (t4), .int .i64 (t5)]
    replace hB := hB.alloc hB.size (.cells #[.int .i64 (t0), .int .i64 (t1), .int .i64 (t2), .int .i64 (t3), .int .i64 (t4), .int .i64 (t5)] 28)
    clear c0 f0 l0 c1 f1 l1 c2 f2 l2 c3 f3 l3 c4 f4 l4
    generalize w1.heap.size = q5 at b5 g5 d5_0 d5_1 d5_2 d5_3 d5_4 ⊢
    generalize w1.alloc (.cells #[.int .i64 (t0), .int .i64 (t1), .int .i64 (t2), .int .i64 (t3), .int .i64 (t4), .int .i64 (t5)] 28) = W5 at hB b0 b1 b2 b3 b4 b5 ⊢
    have c0 := b0.cell
    have f0 := b0.frozen
    have l0 := b0.lt
    have c1 := b1.cell
    have f1 := b1.frozen
    have l1 := b1.lt
    have c2 := b2.cell
    have f2 := b2.frozen
    have l2 := b2.lt
    have c3 := b3.cell
    have f3 := b3.frozen
    have l3 := b3.lt
    have c4 := b4.cell
    have f4 := b4.frozen
    have l4 := b4.lt
    have c5 := b5.cell
    have f5 := b5.frozen
    have l5 := b5.lt
    go_region_held3 (fun w' => (∀ i, w'.cell? ⟨q0, i, none⟩ = (#[.int .i64 (a0), .int .i64 (a1), .int .i64 (a2), .int .i64 (a3), .int .i64 (a4), .int .i64 (a5)] : Array Value)[i]?) ∧ (∀ i, w'.cell? ⟨q1, i, none⟩ = (#[.int .i64 (e0), .int .i64 (e1), .int .i64 (e2), .int .i64 (e3), .int .i64 (e4), .int .i64 (e5)] : Array Value)[i]?) ∧ (∀ i, w'.cell? ⟨q2, i, none⟩ = (#[.int .i64 (u0), .int .i64 (u1), .int .i64 (u2), .int .i64 (u3), .int .i64 (u4), .int .i64 (u5)] : Array Value)[i]?) ∧ (∀ i, w'.cell? ⟨q3, i, none⟩ = (#[.int .i64 (x0), .int .i64 (x1), .int .i64 (x2)] : Array Value)[i]?) ∧ (∀ i, w'.cell? ⟨q4, i, none⟩ = (#[.int .i64 (y0), .int .i64 (y1), .int .i64 (y2)] : Array Value)[i]?) ∧ (∀ i, w'.cell? ⟨q5, i, none⟩ = (#[.int .i64 (t0), .int .i64 (t1), .int .i64 (t2), .int .i64 (t3), .int .i64 (t4), .int .i64 (t5)] : Array Value)[i]?)) (first | with_reducible exact ⟨b0.cell, b1.cell, b2.cell, b3.cell, b4.cell, b5.cell⟩ | with_reducible exact ⟨b0.drew.cell, b1.drew.cell, b2.drew.cell, b3.drew.cell, b4.drew.cell, b5.drew.cell⟩ | with_reducible exact ⟨(b0.alloc _).cell, (b1.alloc _).cell, (b2.alloc _).cell, (b3.alloc _).cell, (b4.alloc _).cell, (b5.alloc _).cell⟩ | with_reducible exact ⟨(b0.alloc _).drew.cell, (b1.alloc _).drew.cell, (b2.alloc _).drew.cell, (b3.alloc _).drew.cell, (b4.alloc _).drew.cell, (b5.alloc _).drew.cell⟩ | exact ⟨(b0.far3 (by omega) _ _ _).cell, (b1.far3 (by omega) _ _ _).cell, (b2.far3 (by omega) _ _ _).cell, (b3.far3 (by omega) _ _ _).cell, (b4.far3 (by omega) _ _ _).cell, (b5.far3 (by omega) _ _ _).cell⟩ | exact ⟨(b0.far3 (by omega) _ _ _).drew.cell, (b1.far3 (by omega) _ _ _).drew.cell, (b2.far3 (by omega) _ _ _).drew.cell, (b3.far3 (by omega) _ _ _).drew.cell, (b4.far3 (by omega) _ _ _).drew.cell, (b5.far3 (by omega) _ _ _).drew.cell⟩ | go_keep)
      (first
        | (go_at_call 48; (first | (with_reducible refine (G1.out _).mono ?_) | (with_reducible refine (G2.out _).mono ?_) | (with_reducible refine (G6.out _).mono ?_) | (with_reducible refine (G7.out _).mono ?_) | (with_reducible refine (G10.out _).mono ?_)); rintro e w1 ⟨rfl, hb⟩; have hB := (by with_reducible first | exact b_keep hb hB | exact b_keep hb hB.drew); replace b0 : Blk w1 _ _ _ := (by with_reducible first | exact Blk.keep hb b0 | exact Blk.keep hb b0.drew); replace b1 : Blk w1 _ _ _ := (by with_reducible first | exact Blk.keep hb b1 | exact Blk.keep hb b1.drew); replace b2 : Blk w1 _ _ _ := (by with_reducible first | exact Blk.keep hb b2 | exact Blk.keep hb b2.drew); replace b3 : Blk w1 _ _ _ := (by with_reducible first | exact Blk.keep hb b3 | exact Blk.keep hb b3.drew); replace b4 : Blk w1 _ _ _ := (by with_reducible first | exact Blk.keep hb b4 | exact Blk.keep hb b4.drew); replace b5 : Blk w1 _ _ _ := (by with_reducible first | exact Blk.keep hb b5 | exact Blk.keep hb b5.drew); replace l0 := b0.lt; replace l1 := b1.lt; replace l2 := b2.lt; replace l3 := b3.lt; replace l4 := b4.lt; replace l5 := b5.lt; replace c0 := b0.cell; replace c1 := b1.cell; replace c2 := b2.cell; replace c3 := b3.cell; replace c4 := b4.cell; replace c5 := b5.cell; replace f0 := b0.frozen; replace f1 := b1.frozen; replace f2 := b2.frozen; replace f3 := b3.frozen; replace f4 := b4.frozen; replace f5 := b5.frozen)
        | (go_at_call 49; (first | (with_reducible refine (G3.out _).mono ?_) | (with_reducible refine (G4.out _).mono ?_) | (with_reducible refine (G5.out _).mono ?_)); rintro e w1 ⟨rfl, hb⟩; have hB := (by with_reducible first | exact b_keep hb hB | exact b_keep hb hB.drew); replace b0 : Blk w1 _ _ _ := (by with_reducible first | exact Blk.keep hb b0 | exact Blk.keep hb b0.drew); replace b1 : Blk w1 _ _ _ := (by with_reducible first | exact Blk.keep hb b1 | exact Blk.keep hb b1.drew); replace b2 : Blk w1 _ _ _ := (by with_reducible first | exact Blk.keep hb b2 | exact Blk.keep hb b2.drew); replace b3 : Blk w1 _ _ _ := (by with_reducible first | exact Blk.keep hb b3 | exact Blk.keep hb b3.drew); replace b4 : Blk w1 _ _ _ := (by with_reducible first | exact Blk.keep hb b4 | exact Blk.keep hb b4.drew); replace b5 : Blk w1 _ _ _ := (by with_reducible first | exact Blk.keep hb b5 | exact Blk.keep hb b5.drew); replace l0 := b0.lt; replace l1 := b1.lt; replace l2 := b2.lt; replace l3 := b3.lt; replace l4 := b4.lt; replace l5 := b5.lt; replace c0 := b0.cell; replace c1 := b1.cell; replace c2 := b2.cell; replace c3 := b3.cell; replace c4 := b4.cell; replace c5 := b5.cell; replace f0 := b0.frozen; replace f1 := b1.frozen; replace f2 := b2.frozen; replace f3 := b3.frozen; replace f4 := b4.frozen; replace f5 := b5.frozen)
        | (go_at_call 16; with_reducible refine (G8.out _).mono ?_; rintro e w1 ⟨rfl, hb⟩; have hB := (by with_reducible first | exact b_keep hb hB | exact b_keep hb hB.drew); replace b0 : Blk w1 _ _ _ := (by with_reducible first | exact Blk.keep hb b0 | exact Blk.keep hb b0.drew); replace b1 : Blk w1 _ _ _ := (by with_reducible first | exact Blk.keep hb b1 | exact Blk.keep hb b1.drew); replace b2 : Blk w1 _ _ _ := (by with_reducible first | exact Blk.keep hb b2 | exact Blk.keep hb b2.drew); replace b3 : Blk w1 _ _ _ := (by with_reducible first | exact Blk.keep hb b3 | exact Blk.keep hb b3.drew); replace b4 : Blk w1 _ _ _ := (by with_reducible first | exact Blk.keep hb b4 | exact Blk.keep hb b4.drew); replace b5 : Blk w1 _ _ _ := (by with_reducible first | exact Blk.keep hb b5 | exact Blk.keep hb b5.drew); replace l0 := b0.lt; replace l1 := b1.lt; replace l2 := b2.lt; replace l3 := b3.lt; replace l4 := b4.lt; replace l5 := b5.lt; replace c0 := b0.cell; replace c1 := b1.cell; replace c2 := b2.cell; replace c3 := b3.cell; replace c4 := b4.cell; replace c5 := b5.cell; replace f0 := b0.frozen; replace f1 := b1.frozen; replace f2 := b2.frozen; replace f3 := b3.frozen; replace f4 := b4.frozen; replace f5 := b5.frozen)
        | (go_at_call 50; with_reducible refine (G9.out _).mono ?_; rintro e w1 ⟨rfl, hb⟩; have hB := (by with_reducible first | exact b_keep hb hB | exact b_keep hb hB.drew); replace b0 : Blk w1 _ _ _ := (by with_reducible first | exact Blk.keep hb b0 | exact Blk.keep hb b0.drew); replace b1 : Blk w1 _ _ _ := (by with_reducible first | exact Blk.keep hb b1 | exact Blk.keep hb b1.drew); replace b2 : Blk w1 _ _ _ := (by with_reducible first | exact Blk.keep hb b2 | exact Blk.keep hb b2.drew); replace b3 : Blk w1 _ _ _ := (by with_reducible first | exact Blk.keep hb b3 | exact Blk.keep hb b3.drew); replace b4 : Blk w1 _ _ _ := (by with_reducible first | exact Blk.keep hb b4 | exact Blk.keep hb b4.drew); replace b5 : Blk w1 _ _ _ := (by with_reducible first | exact Blk.keep hb b5 | exact Blk.keep hb b5.drew); replace l0 := b0.lt; replace l1 := b1.lt; replace l2 := b2.lt; replace l3 := b3.lt; replace l4 := b4.lt; replace l5 := b5.lt; replace c0 := b0.cell; replace c1 := b1.cell; replace c2 := b2.cell; replace c3 := b3.cell; replace c4 := b4.cell; replace c5 := b5.cell; replace f0 := b0.frozen; replace f1 := b1.frozen; replace f2 := b2.frozen; replace f3 := b3.frozen; replace f4 := b4.frozen; replace f5 := b5.frozen))
    clear c0 c1 c2 c3 c4 c5 f0 f1 f2 f3 f4 f5
    go_wp2
    go_ret
    exact ⟨rfl, hB⟩

set_option maxRecDepth 100000 in
theorem FnBoxes_run {H : Type} {enc : TypeId × Value → H} (W : World) (base : Nat) (args : Array Value) (ds : List (DataW H)) (p : List MemPlace)
    (hl : args.toList.length = Try.f13.params.toList.length)
    (hval : ∀ (j : Nat) t v, Try.f13.params[j]? = some t → args[j]? = some v → Value.okWide Try.prog W .any base t v)
    (hA : DataW.TrodAll enc Try.prog W 0 (fun _ => true) true Try.f13.params.toList args.toList ds p) :
    Calls Try.prog 13 args W fun e w' => e = .returned (.bool true) ∧ Below W.heap.size W w' := by
  rw [Try.params13] at hl hval hA
  obtain ⟨v0, d0, rfl, rfl, h0⟩ := trodAll_one hA
  obtain ⟨n, bs, hx, hm⟩ := open_bytes Try.underlying60 Try.underlying5 (by kernel_rfl) (hval 0 60 v0 rfl rfl) h0
  exact lawBoxes v0 n bs W hx hm

set_option maxRecDepth 100000 in
theorem FnBoxes_lifted (os : Os) (started : os.Started) (H : Type) (enc : TypeId × Value → H) :
    ReturnsInHanded {} Try.checked os 13 .any (Rows.fnBoxesSpec.pre6 enc Try.prog Try.f13 Rows.fnBoxesRow.domain false) (Rows.fnBoxesSpec.post enc Try.prog Try.f13 false true false false) := by
  refine returnsInHanded_of_change (C := Try.checked) own started (by kernel_rfl) Try.func13
    (ChangeSpec.witness6 (enc := enc) (C := Try.checked) false ⟨#[], #[.slice none 0 0], []⟩ 8 (by kernel_rfl) (by kernel_rfl) (by kernel_rfl) (by kernel_rfl)) ?_
  intro W base args ds gs before hval hW _ _
  exact Fr.contract (P := Try.prog) (tb := 4) laidOut (by kernel_rfl) rfl rfl (by kernel_rfl) (fun ds hl => by match ds, hl with | [_], _ => rfl) FnBoxes_run W base args ds gs before hval hW

theorem FnBoxes_holds : Rows.FnBoxesSaid :=
  OpenClaim.holds_of_wide 13 Try.f13 rfl rfl rfl rfl rfl rfl rfl ⟨rfl, rfl, rfl, rfl, rfl⟩ rfl rfl rfl rfl rfl (by kernel_rfl) Try.func13 (by kernel_rfl)
    (of_decide_eq_true (by kernel_rfl)) (by unfold Func.isWrapper; first | (rw [if_pos (by decide +kernel)]; kernel_rfl) | (rw [if_neg (by decide +kernel)]; exact ⟨rfl, rfl⟩))
    (fun os started H enc _ => FnBoxes_lifted os started H enc)
#print axioms FnBoxes_holds
end Go.Proofs.Ytobfccoljijnkaa
