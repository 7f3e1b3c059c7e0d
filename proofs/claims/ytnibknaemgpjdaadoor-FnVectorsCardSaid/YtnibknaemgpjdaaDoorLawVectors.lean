/- Vectors can be added, interpolated and recovered from their text, for all bytes. No condition. -/
import Derived.Test.YtnibknaemgpjdaaDoorBaseL5
import Derived.Test.YtnibknaemgpjdaaDoorParV
import Derived.Test.YtnibknaemgpjdaaDoorOpenB
import Derived.Test.YtnibknaemgpjdaaDoorCur2
import Derived.Test.YtnibknaemgpjdaaDoorVec5
import Derived.Test.YtnibknaemgpjdaaDoorLerp
namespace Go.Proofs.YtnibknaemgpjdaaDoor
open Go.ChangeShapes Go.WideShapes Go.ChangeAt Go.RowKit

theorem eqv_same (a b c : Int) (w : World) : (Op.equalIn 10000 23 (.agg #[.int .i64 (a), .int .i64 (b), .int .i64 (c)]) (.agg #[.int .i64 (a), .int .i64 (b), .int .i64 (c)])).run Tryd.prog w = .ok true w := by
  rw [equalIn_vec]; simp
theorem parFmtV {x y z : Int} (h : vb x y z = true) (w : World) (hT : Tab w) (hE : Errs w) :
    Calls Tryd.prog 26 #[.string (txV x y z)] w fun e w' => e = .returned (.tuple #[.agg #[.int .i64 (x), .int .i64 (y), .int .i64 (z)], .bool true]) ∧ Below w.heap.size w w' := by
  have hl : (txV x y z).data.toList = fmtV x y z := by unfold txV; exact data_mk _
  refine (parVecI (txV x y z) (by have := txV_size x y z; omega) w hT hE).mono ?_
  rintro e w' ⟨rfl, hb⟩
  rw [hl, vecV_some (vecOf_fmt h)]
  exact ⟨rfl, hb⟩
def Sm (n : Int) : Prop := -100 ≤ n ∧ n ≤ 299
theorem Sm.cl {n : Int} (h : Sm n) : cl n = n := by unfold Sm at h; exact cl_id (by omega) (by omega)
theorem lerp0 {a b : Int} (ha : Sm a) (hb : Sm b) : leZ a b 0 5 = a := by
  rw [leZ_ok (by decide) (by decide), ha.cl, hb.cl, fdZ_pos (by decide)]
  omega
theorem lerp5 {a b : Int} (ha : Sm a) (hb : Sm b) : leZ a b 5 5 = b := by
  rw [leZ_ok (by decide) (by decide), ha.cl, hb.cl, fdZ_pos (by decide)]
  omega
theorem scale1 {a : Int} (ha : Sm a) : scZ a 1 1 = a := by
  have : scZ a 1 1 = cl (fdZ (cl a * 1) 1) := by unfold scZ; rfl
  rw [this, ha.cl, fdZ_pos (by decide), Int.mul_one, Int.ediv_one, ha.cl]
theorem add_ab {a b : Int} (ha : Sm a) (hb : Sm b) : cl (cl a + cl b) = a + b := by
  rw [ha.cl, hb.cl]; unfold Sm at ha hb; exact cl_id (by omega) (by omega)
theorem sub_sb {a b : Int} (ha : Sm a) (hb : Sm b) : cl (cl (a + b) - cl b) = a := by
  unfold Sm at ha hb
  rw [cl_id (n := a + b) (by omega) (by omega), cl_id (n := b) (by omega) (by omega), cl_id (by omega) (by omega)]
  omega
theorem mn_mx {a b : Int} (ha : Sm a) (hb : Sm b) : cl (cl (mnZ (cl a) (cl b)) + cl (mxZ (cl a) (cl b))) = a + b := by
  rw [ha.cl, hb.cl]
  unfold Sm at ha hb
  unfold mnZ mxZ
  rw [cl_id (n := min a b) (by omega) (by omega), cl_id (n := max a b) (by omega) (by omega), cl_id (by omega) (by omega)]
  omega
/-- What the law's calls answer at two small vectors. -/
theorem vec_small {x0 x1 x2 y0 y1 y2 : Int} (h0 : Sm x0) (h1 : Sm x1) (h2 : Sm x2) (k0 : Sm y0) (k1 : Sm y1) (k2 : Sm y2) : ∃ s0 s1 s2 m0 m1 m2 n0 n1 n2 d : Int,
    (∀ w, Calls Tryd.prog 28 #[.agg #[.int .i64 (x0), .int .i64 (x1), .int .i64 (x2)], .agg #[.int .i64 (y0), .int .i64 (y1), .int .i64 (y2)]] w fun e w' => e = .returned (.agg #[.int .i64 (s0), .int .i64 (s1), .int .i64 (s2)]) ∧ Below w.heap.size w w') ∧
    (∀ w, Calls Tryd.prog 28 #[.agg #[.int .i64 (y0), .int .i64 (y1), .int .i64 (y2)], .agg #[.int .i64 (x0), .int .i64 (x1), .int .i64 (x2)]] w fun e w' => e = .returned (.agg #[.int .i64 (s0), .int .i64 (s1), .int .i64 (s2)]) ∧ Below w.heap.size w w') ∧
    (∀ w, Calls Tryd.prog 29 #[.agg #[.int .i64 (s0), .int .i64 (s1), .int .i64 (s2)], .agg #[.int .i64 (y0), .int .i64 (y1), .int .i64 (y2)]] w fun e w' => e = .returned (.agg #[.int .i64 (x0), .int .i64 (x1), .int .i64 (x2)]) ∧ Below w.heap.size w w') ∧
    (∀ w, Calls Tryd.prog 30 #[.agg #[.int .i64 (x0), .int .i64 (x1), .int .i64 (x2)], .agg #[.int .i64 (y0), .int .i64 (y1), .int .i64 (y2)]] w fun e w' => e = .returned (.int .i64 d) ∧ Below w.heap.size w w') ∧
    (∀ w, Calls Tryd.prog 30 #[.agg #[.int .i64 (y0), .int .i64 (y1), .int .i64 (y2)], .agg #[.int .i64 (x0), .int .i64 (x1), .int .i64 (x2)]] w fun e w' => e = .returned (.int .i64 d) ∧ Below w.heap.size w w') ∧
    (∀ w, Calls Tryd.prog 31 #[.agg #[.int .i64 (x0), .int .i64 (x1), .int .i64 (x2)], .agg #[.int .i64 (y0), .int .i64 (y1), .int .i64 (y2)], .int .i64 0, .int .i64 5] w fun e w' => e = .returned (.agg #[.int .i64 (x0), .int .i64 (x1), .int .i64 (x2)]) ∧ Below w.heap.size w w') ∧
    (∀ w, Calls Tryd.prog 31 #[.agg #[.int .i64 (x0), .int .i64 (x1), .int .i64 (x2)], .agg #[.int .i64 (y0), .int .i64 (y1), .int .i64 (y2)], .int .i64 5, .int .i64 5] w fun e w' => e = .returned (.agg #[.int .i64 (y0), .int .i64 (y1), .int .i64 (y2)]) ∧ Below w.heap.size w w') ∧
    (∀ w, Calls Tryd.prog 32 #[.agg #[.int .i64 (x0), .int .i64 (x1), .int .i64 (x2)], .agg #[.int .i64 (y0), .int .i64 (y1), .int .i64 (y2)]] w fun e w' => e = .returned (.agg #[.int .i64 (m0), .int .i64 (m1), .int .i64 (m2)]) ∧ Below w.heap.size w w') ∧
    (∀ w, Calls Tryd.prog 33 #[.agg #[.int .i64 (x0), .int .i64 (x1), .int .i64 (x2)], .agg #[.int .i64 (y0), .int .i64 (y1), .int .i64 (y2)]] w fun e w' => e = .returned (.agg #[.int .i64 (n0), .int .i64 (n1), .int .i64 (n2)]) ∧ Below w.heap.size w w') ∧
    (∀ w, Calls Tryd.prog 28 #[.agg #[.int .i64 (m0), .int .i64 (m1), .int .i64 (m2)], .agg #[.int .i64 (n0), .int .i64 (n1), .int .i64 (n2)]] w fun e w' => e = .returned (.agg #[.int .i64 (s0), .int .i64 (s1), .int .i64 (s2)]) ∧ Below w.heap.size w w') ∧
    (∀ w, Calls Tryd.prog 34 #[.agg #[.int .i64 (x0), .int .i64 (x1), .int .i64 (x2)], .int .i64 1, .int .i64 1] w fun e w' => e = .returned (.agg #[.int .i64 (x0), .int .i64 (x1), .int .i64 (x2)]) ∧ Below w.heap.size w w') := by
  refine ⟨x0 + y0, x1 + y1, x2 + y2, _, _, _, _, _, _, dotZ x0 x1 x2 y0 y1 y2, fun w => ?_, fun w => ?_, fun w => ?_, fun w => dotI _ _ _ _ _ _ w, fun w => ?_, fun w => ?_, fun w => ?_, fun w => minI _ _ _ _ _ _ w, fun w => maxI _ _ _ _ _ _ w, fun w => ?_, fun w => ?_⟩
  · have h := addI x0 x1 x2 y0 y1 y2 w
    rw [add_ab h0 k0, add_ab h1 k1, add_ab h2 k2] at h
    exact h
  · have h := addI y0 y1 y2 x0 x1 x2 w
    rw [add_ab k0 h0, add_ab k1 h1, add_ab k2 h2, Int.add_comm y0, Int.add_comm y1, Int.add_comm y2] at h
    exact h
  · have h := subI (x0 + y0) (x1 + y1) (x2 + y2) y0 y1 y2 w
    rw [sub_sb h0 k0, sub_sb h1 k1, sub_sb h2 k2] at h
    exact h
  · have h := dotI y0 y1 y2 x0 x1 x2 w
    have e : dotZ y0 y1 y2 x0 x1 x2 = dotZ x0 x1 x2 y0 y1 y2 := by
      unfold dotZ
      rw [Int.mul_comm (cl y0), Int.mul_comm (cl y1), Int.mul_comm (cl y2)]
    rw [e] at h
    exact h
  · have h := lerpI x0 x1 x2 y0 y1 y2 0 5 w
    rw [lerp0 h0 k0, lerp0 h1 k1, lerp0 h2 k2] at h
    exact h
  · have h := lerpI x0 x1 x2 y0 y1 y2 5 5 w
    rw [lerp5 h0 k0, lerp5 h1 k1, lerp5 h2 k2] at h
    exact h
  · have h := addI (mnZ (cl x0) (cl y0)) (mnZ (cl x1) (cl y1)) (mnZ (cl x2) (cl y2)) (mxZ (cl x0) (cl y0)) (mxZ (cl x1) (cl y1)) (mxZ (cl x2) (cl y2)) w
    rw [mn_mx h0 k0, mn_mx h1 k1, mn_mx h2 k2] at h
    exact h
  · have h := scaleI x0 x1 x2 1 1 w
    rw [scale1 h0, scale1 h1, scale1 h2] at h
    exact h
theorem sm_vb {x y z : Int} (h0 : Sm x) (h1 : Sm y) (h2 : Sm z) : vb x y z = true := by
  unfold Sm at h0 h1 h2
  exact vb_iff.2 ⟨by omega, by omega, by omega⟩
set_option maxRecDepth 100000 in
set_option maxHeartbeats 16000000 in
theorem lawVectors (v : Value) (n : Nat) (bs : Nat → Int) (w : World) (h : BytesAt w w.heap.size v n bs) (hm : n ≤ maxLen) (hT : Tab w) (hE : Errs w) :
    Calls Tryd.prog 6 #[v] w fun e w' => e = .returned (.bool true) ∧ Below w.heap.size w w' := by
  unfold maxLen at hm
  have h0 := h
  obtain ⟨hbs, a, cap, rfl, hc⟩ := h
  clear hbs hc
  by_cases hbig : 1048576 < (n : Int)
  · clear h0 hT hE
    go_enter Tryd.func6, Tryd.ntmps6
    go_wp2
    go_ret
    exact ⟨rfl, Below.refl _ _⟩
  · have hn : n ≤ 1048576 := by omega
    have H0 := Lib.hid h0
    have HT := Lib.hid hT
    have HE := Lib.hid hE
    clear h0 hT hE
    have hB : Below w.heap.size w w := Below.refl _ _
    have hgd := guard_vec
    go_enter Tryd.func6, Tryd.ntmps6
    go_wp2_with fail
    clear hbig hm
    refine (makeVec_any 0 _ _ _ n bs (by omega) (by omega) hB.size hn (H0.out.keep hB)).mono ?_
    rintro r w1 ⟨x0, x1, x2, rfl, hx0, hx1, hx2, hb⟩
    have X0 := Lib.hid hx0
    have X1 := Lib.hid hx1
    have X2 := Lib.hid hx2
    clear hx0 hx1 hx2
    replace hB := b_keep hb hB
    clear hb
    go_wp2_with fail
    have g0 := hB.size
    have b0 := Blk.new w1 23 #[.int .i64 (x0), .int .i64 (x1), .int .i64 (x2)]
    replace hB := hB.alloc hB.size (.cells #[.int .i64 (x0), .int .i64 (x1), .int .i64 (x2)] 23)
    generalize w1.heap.size = q0 at b0 g0  ⊢
    generalize w1.alloc (.cells #[.int .i64 (x0), .int .i64 (x1), .int .i64 (x2)] 23) = W0 at hB b0 ⊢
    have c0 := b0.cell
    have f0 := b0.frozen
    have l0 := b0.lt
    refine (makeVec_any 1 _ _ _ n bs (by omega) (by omega) hB.size hn (H0.out.keep hB)).mono ?_
    rintro r w1 ⟨y0, y1, y2, rfl, hx0, hx1, hx2, hb⟩
    obtain ⟨s0, s1, s2, m0, m1, m2, n0, n1, n2, d, g1, g2, g3, g4, g5, g6, g7, g8, g9, g10, g11⟩ := vec_small X0.out X1.out X2.out hx0 hx1 hx2
    have G1 := Lib.hid g1
    have G2 := Lib.hid g2
    have G3 := Lib.hid g3
    have G4 := Lib.hid g4
    have G5 := Lib.hid g5
    have G6 := Lib.hid g6
    have G7 := Lib.hid g7
    have G8 := Lib.hid g8
    have G9 := Lib.hid g9
    have G10 := Lib.hid g10
    have G11 := Lib.hid g11
    have HV := Lib.hid (sm_vb X0.out X1.out X2.out)
    clear hx0 hx1 hx2 g1 g2 g3 g4 g5 g6 g7 g8 g9 g10 g11 X0 X1 X2
    have hB := (by with_reducible first | exact b_keep hb hB | exact b_keep hb hB.drew)
    replace b0 : Blk w1 _ _ _ := (by with_reducible first | exact Blk.keep hb b0 | exact Blk.keep hb b0.drew)
    replace l0 := b0.lt
    replace c0 := b0.cell
    replace f0 := b0.frozen
    clear hb
    go_wp2_with fail
    have d1_0 := b0.lt
    have g1 := hB.size
    replace b0 := b0.alloc (.cells #[.int .i64 (y0), .int .i64 (y1), .int .i64 (y2)] 23)
    have b1 := Blk.new w1 23 #[.int .i64 (y0), .int .i64 (y1), .int .i64 (y2)]
    replace hB := hB.alloc hB.size (.cells #[.int .i64 (y0), .int .i64 (y1), .int .i64 (y2)] 23)
    clear c0 f0 l0
    generalize w1.heap.size = q1 at b1 g1 d1_0 ⊢
    generalize w1.alloc (.cells #[.int .i64 (y0), .int .i64 (y1), .int .i64 (y2)] 23) = W1 at hB b0 b1 ⊢
    have c0 := b0.cell
    have f0 := b0.frozen
    have l0 := b0.lt
    have c1 := b1.cell
    have f1 := b1.frozen
    have l1 := b1.lt
    have HF := Lib.hid (fmtVecI x0 x1 x2 W1 (HT.out.keep hB))
    have HP : ∀ w', Below w.heap.size w w' → Hid (Calls Tryd.prog 26 #[.string (txV x0 x1 x2)] w' fun e w2 => e = .returned (.tuple #[.agg #[.int .i64 (x0), .int .i64 (x1), .int .i64 (x2)], .bool true]) ∧ Below w'.heap.size w' w2) := fun w' hb => parFmtV HV.out w' (HT.out.keep hb) (HE.out.keep hb)
    unfold VecRes at HF
    generalize txV x0 x1 x2 = tx at HF HP
    refine HF.out.mono ?_
    rintro e w1 ⟨rfl, hb⟩
    have hB := (by with_reducible first | exact b_keep hb hB | exact b_keep hb hB.drew)
    replace b0 : Blk w1 _ _ _ := (by with_reducible first | exact Blk.keep hb b0 | exact Blk.keep hb b0.drew)
    replace b1 : Blk w1 _ _ _ := (by with_reducible first | exact Blk.keep hb b1 | exact Blk.keep hb b1.drew)
    replace l0 := b0.lt
    replace l1 := b1.lt
    replace c0 := b0.cell
    replace c1 := b1.cell
    replace f0 := b0.frozen
    replace f1 := b1.frozen
    clear hb
    have HC := HP _ hB
    go_wp2_with fail
    refine HC.out.mono ?_
    rintro e w1 ⟨rfl, hb⟩
    have hB := (by with_reducible first | exact b_keep hb hB | exact b_keep hb hB.drew)
    replace b0 : Blk w1 _ _ _ := (by with_reducible first | exact Blk.keep hb b0 | exact Blk.keep hb b0.drew)
    replace b1 : Blk w1 _ _ _ := (by with_reducible first | exact Blk.keep hb b1 | exact Blk.keep hb b1.drew)
    replace l0 := b0.lt
    replace l1 := b1.lt
    replace c0 := b0.cell
    replace c1 := b1.cell
    replace f0 := b0.frozen
    replace f1 := b1.frozen
    clear hb
    clear HC HP HF HV HT HE H0
    go_wp2_with fail
    have d2_0 := b0.lt
    have d2_1 := b1.lt
    have g2 := hB.size
    replace b0 := b0.alloc (.cells #[.int .i64 (x0), .int .i64 (x1), .int .i64 (x2)] 23)
    replace b1 := b1.alloc (.cells #[.int .i64 (x0), .int .i64 (x1), .int .i64 (x2)] 23)
    have b2 := Blk.new w1 23 #[.int .i64 (x0), .int .i64 (x1), .int .i64 (x2)]
    replace hB := hB.alloc hB.size (.cells #[.int .i64 (x0), .int .i64 (x1), .int .i64 (x2)] 23)
    clear c0 f0 l0 c1 f1 l1
    generalize w1.heap.size = q2 at b2 g2 d2_0 d2_1 ⊢
    generalize w1.alloc (.cells #[.int .i64 (x0), .int .i64 (x1), .int .i64 (x2)] 23) = W2 at hB b0 b1 b2 ⊢
    have c0 := b0.cell
    have f0 := b0.frozen
    have l0 := b0.lt
    have c1 := b1.cell
    have f1 := b1.frozen
    have l1 := b1.lt
    have c2 := b2.cell
    have f2 := b2.frozen
    have l2 := b2.lt
    refine (G1.out _).mono ?_
    rintro e w1 ⟨rfl, hb⟩
    have hB := (by with_reducible first | exact b_keep hb hB | exact b_keep hb hB.drew)
    replace b0 : Blk w1 _ _ _ := (by with_reducible first | exact Blk.keep hb b0 | exact Blk.keep hb b0.drew)
    replace b1 : Blk w1 _ _ _ := (by with_reducible first | exact Blk.keep hb b1 | exact Blk.keep hb b1.drew)
    replace b2 : Blk w1 _ _ _ := (by with_reducible first | exact Blk.keep hb b2 | exact Blk.keep hb b2.drew)
    replace l0 := b0.lt
    replace l1 := b1.lt
    replace l2 := b2.lt
    replace c0 := b0.cell
    replace c1 := b1.cell
    replace c2 := b2.cell
    replace f0 := b0.frozen
    replace f1 := b1.frozen
    replace f2 := b2.frozen
    clear hb
    have ev := fun W => eqv_same x0 x1 x2 W
    have ev1 := fun W => eqv_same y0 y1 y2 W
    have ev2 := fun W => eqv_same s0 s1 s2 W
    go_upto_region 7 with fail
    have d3_0 := b0.lt
    have d3_1 := b1.lt
    have d3_2 := b2.lt
    have g3 := hB.size
    replace b0 := b0.alloc (.cells #[.int .i64 (s0), .int .i64 (s1), .int .i64 (s2)] 23)
    replace b1 := b1.alloc (.cells #[.int .i64 (s0), .int .i64 (s1), .int .i64 (s2)] 23)
    replace b2 := b2.alloc (.cells #[.int .i64 (s0), .int .i64 (s1), .int .i64 (s2)] 23)
    have b3 := Blk.new w1 23 #[.int .i64 (s0), .int .i64 (s1), .int .i64 (s2)]
    replace hB := hB.alloc hB.size (.cells #[.int .i64 (s0), .int .i64 (s1), .int .i64 (s2)] 23)
    clear c0 f0 l0 c1 f1 l1 c2 f2 l2
    generalize w1.heap.size = q3 at b3 g3 d3_0 d3_1 d3_2 ⊢
    generalize w1.alloc (.cells #[.int .i64 (s0), .int .i64 (s1), .int .i64 (s2)] 23) = W3 at hB b0 b1 b2 b3 ⊢
    have c0 := b0.cell
    have f0 := b0.frozen
    have l0 := b0.lt
    have c1 := b1.cell
    have f1 := b1.frozen
    have l1 := b1.lt
    have c2 := b2.cell
    have f2 := b2.frozen
    have l2 := b2.lt
    have c3 := b3.cell
    have f3 := b3.frozen
    have l3 := b3.lt
    go_region_held3 (fun w' => (∀ i, w'.cell? ⟨q0, i, none⟩ = (#[.int .i64 (x0), .int .i64 (x1), .int .i64 (x2)] : Array Value)[i]?) ∧ (∀ i, w'.cell? ⟨q1, i, none⟩ = (#[.int .i64 (y0), .int .i64 (y1), .int .i64 (y2)] : Array Value)[i]?) ∧ (∀ i, w'.cell? ⟨q2, i, none⟩ = (#[.int .i64 (x0), .int .i64 (x1), .int .i64 (x2)] : Array Value)[i]?) ∧ (∀ i, w'.cell? ⟨q3, i, none⟩ = (#[.int .i64 (s0), .int .i64 (s1), .int .i64 (s2)] : Array Value)[i]?)) (first | with_reducible exact ⟨b0.cell, b1.cell, b2.cell, b3.cell⟩ | with_reducible exact ⟨b0.drew.cell, b1.drew.cell, b2.drew.cell, b3.drew.cell⟩ | with_reducible exact ⟨(b0.alloc _).cell, (b1.alloc _).cell, (b2.alloc _).cell, (b3.alloc _).cell⟩ | with_reducible exact ⟨(b0.alloc _).drew.cell, (b1.alloc _).drew.cell, (b2.alloc _).drew.cell, (b3.alloc _).drew.cell⟩ | exact ⟨(b0.far3 (by omega) _ _ _).cell, (b1.far3 (by omega) _ _ _).cell, (b2.far3 (by omega) _ _ _).cell, (b3.far3 (by omega) _ _ _).cell⟩ | exact ⟨(b0.far3 (by omega) _ _ _).drew.cell, (b1.far3 (by omega) _ _ _).drew.cell, (b2.far3 (by omega) _ _ _).drew.cell, (b3.far3 (by omega) _ _ _).drew.cell⟩ | go_keep)
      (first
        | (go_at_call 28; (first | (with_reducible refine (G2.out _).mono ?_) | (with_reducible refine (G10.out _).mono ?_)); rintro e w1 ⟨rfl, hb⟩; have hB := (by with_reducible first | exact b_keep hb hB | exact b_keep hb hB.drew); replace b0 : Blk w1 _ _ _ := (by with_reducible first | exact Blk.keep hb b0 | exact Blk.keep hb b0.drew); replace b1 : Blk w1 _ _ _ := (by with_reducible first | exact Blk.keep hb b1 | exact Blk.keep hb b1.drew); replace b2 : Blk w1 _ _ _ := (by with_reducible first | exact Blk.keep hb b2 | exact Blk.keep hb b2.drew); replace b3 : Blk w1 _ _ _ := (by with_reducible first | exact Blk.keep hb b3 | exact Blk.keep hb b3.drew); replace l0 := b0.lt; replace l1 := b1.lt; replace l2 := b2.lt; replace l3 := b3.lt; replace c0 := b0.cell; replace c1 := b1.cell; replace c2 := b2.cell; replace c3 := b3.cell; replace f0 := b0.frozen; replace f1 := b1.frozen; replace f2 := b2.frozen; replace f3 := b3.frozen)
        | (go_at_call 29; with_reducible refine (G3.out _).mono ?_; rintro e w1 ⟨rfl, hb⟩; have hB := (by with_reducible first | exact b_keep hb hB | exact b_keep hb hB.drew); replace b0 : Blk w1 _ _ _ := (by with_reducible first | exact Blk.keep hb b0 | exact Blk.keep hb b0.drew); replace b1 : Blk w1 _ _ _ := (by with_reducible first | exact Blk.keep hb b1 | exact Blk.keep hb b1.drew); replace b2 : Blk w1 _ _ _ := (by with_reducible first | exact Blk.keep hb b2 | exact Blk.keep hb b2.drew); replace b3 : Blk w1 _ _ _ := (by with_reducible first | exact Blk.keep hb b3 | exact Blk.keep hb b3.drew); replace l0 := b0.lt; replace l1 := b1.lt; replace l2 := b2.lt; replace l3 := b3.lt; replace c0 := b0.cell; replace c1 := b1.cell; replace c2 := b2.cell; replace c3 := b3.cell; replace f0 := b0.frozen; replace f1 := b1.frozen; replace f2 := b2.frozen; replace f3 := b3.frozen)
        | (go_at_call 30; (first | (with_reducible refine (G4.out _).mono ?_) | (with_reducible refine (G5.out _).mono ?_)); rintro e w1 ⟨rfl, hb⟩; have hB := (by with_reducible first | exact b_keep hb hB | exact b_keep hb hB.drew); replace b0 : Blk w1 _ _ _ := (by with_reducible first | exact Blk.keep hb b0 | exact Blk.keep hb b0.drew); replace b1 : Blk w1 _ _ _ := (by with_reducible first | exact Blk.keep hb b1 | exact Blk.keep hb b1.drew); replace b2 : Blk w1 _ _ _ := (by with_reducible first | exact Blk.keep hb b2 | exact Blk.keep hb b2.drew); replace b3 : Blk w1 _ _ _ := (by with_reducible first | exact Blk.keep hb b3 | exact Blk.keep hb b3.drew); replace l0 := b0.lt; replace l1 := b1.lt; replace l2 := b2.lt; replace l3 := b3.lt; replace c0 := b0.cell; replace c1 := b1.cell; replace c2 := b2.cell; replace c3 := b3.cell; replace f0 := b0.frozen; replace f1 := b1.frozen; replace f2 := b2.frozen; replace f3 := b3.frozen)
        | (go_at_call 31; (first | (with_reducible refine (G6.out _).mono ?_) | (with_reducible refine (G7.out _).mono ?_)); rintro e w1 ⟨rfl, hb⟩; have hB := (by with_reducible first | exact b_keep hb hB | exact b_keep hb hB.drew); replace b0 : Blk w1 _ _ _ := (by with_reducible first | exact Blk.keep hb b0 | exact Blk.keep hb b0.drew); replace b1 : Blk w1 _ _ _ := (by with_reducible first | exact Blk.keep hb b1 | exact Blk.keep hb b1.drew); replace b2 : Blk w1 _ _ _ := (by with_reducible first | exact Blk.keep hb b2 | exact Blk.keep hb b2.drew); replace b3 : Blk w1 _ _ _ := (by with_reducible first | exact Blk.keep hb b3 | exact Blk.keep hb b3.drew); replace l0 := b0.lt; replace l1 := b1.lt; replace l2 := b2.lt; replace l3 := b3.lt; replace c0 := b0.cell; replace c1 := b1.cell; replace c2 := b2.cell; replace c3 := b3.cell; replace f0 := b0.frozen; replace f1 := b1.frozen; replace f2 := b2.frozen; replace f3 := b3.frozen)
        | (go_at_call 32; with_reducible refine (G8.out _).mono ?_; rintro e w1 ⟨rfl, hb⟩; have hB := (by with_reducible first | exact b_keep hb hB | exact b_keep hb hB.drew); replace b0 : Blk w1 _ _ _ := (by with_reducible first | exact Blk.keep hb b0 | exact Blk.keep hb b0.drew); replace b1 : Blk w1 _ _ _ := (by with_reducible first | exact Blk.keep hb b1 | exact Blk.keep hb b1.drew); replace b2 : Blk w1 _ _ _ := (by with_reducible first | exact Blk.keep hb b2 | exact Blk.keep hb b2.drew); replace b3 : Blk w1 _ _ _ := (by with_reducible first | exact Blk.keep hb b3 | exact Blk.keep hb b3.drew); replace l0 := b0.lt; replace l1 := b1.lt; replace l2 := b2.lt; replace l3 := b3.lt; replace c0 := b0.cell; replace c1 := b1.cell; replace c2 := b2.cell; replace c3 := b3.cell; replace f0 := b0.frozen; replace f1 := b1.frozen; replace f2 := b2.frozen; replace f3 := b3.frozen)
        | (go_at_call 33; with_reducible refine (G9.out _).mono ?_; rintro e w1 ⟨rfl, hb⟩; have hB := (by with_reducible first | exact b_keep hb hB | exact b_keep hb hB.drew); replace b0 : Blk w1 _ _ _ := (by with_reducible first | exact Blk.keep hb b0 | exact Blk.keep hb b0.drew); replace b1 : Blk w1 _ _ _ := (by with_reducible first | exact Blk.keep hb b1 | exact Blk.keep hb b1.drew); replace b2 : Blk w1 _ _ _ := (by with_reducible first | exact Blk.keep hb b2 | exact Blk.keep hb b2.drew); replace b3 : Blk w1 _ _ _ := (by with_reducible first | exact Blk.keep hb b3 | exact Blk.keep hb b3.drew); replace l0 := b0.lt; replace l1 := b1.lt; replace l2 := b2.lt; replace l3 := b3.lt; replace c0 := b0.cell; replace c1 := b1.cell; replace c2 := b2.cell; replace c3 := b3.cell; replace f0 := b0.frozen; replace f1 := b1.frozen; replace f2 := b2.frozen; replace f3 := b3.frozen)
        | (go_at_call 34; with_reducible refine (G11.out _).mono ?_; rintro e w1 ⟨rfl, hb⟩; have hB := (by with_reducible first | exact b_keep hb hB | exact b_keep hb hB.drew); replace b0 : Blk w1 _ _ _ := (by with_reducible first | exact Blk.keep hb b0 | exact Blk.keep hb b0.drew); replace b1 : Blk w1 _ _ _ := (by with_reducible first | exact Blk.keep hb b1 | exact Blk.keep hb b1.drew); replace b2 : Blk w1 _ _ _ := (by with_reducible first | exact Blk.keep hb b2 | exact Blk.keep hb b2.drew); replace b3 : Blk w1 _ _ _ := (by with_reducible first | exact Blk.keep hb b3 | exact Blk.keep hb b3.drew); replace l0 := b0.lt; replace l1 := b1.lt; replace l2 := b2.lt; replace l3 := b3.lt; replace c0 := b0.cell; replace c1 := b1.cell; replace c2 := b2.cell; replace c3 := b3.cell; replace f0 := b0.frozen; replace f1 := b1.frozen; replace f2 := b2.frozen; replace f3 := b3.frozen))
    clear c0 c1 c2 c3 f0 f1 f2 f3
    go_wp2
    go_ret
    exact ⟨rfl, hB⟩

set_option maxRecDepth 100000 in
theorem FnVectors_run {H : Type} {enc : TypeId × Value → H} (W : World) (base : Nat) (args : Array Value) (ds : List (DataW H)) (p : List MemPlace)
    (hL : laidMetH Tryd.prog laid5 W) (hl : args.toList.length = Tryd.f6.params.toList.length)
    (hval : ∀ (j : Nat) t v, Tryd.f6.params[j]? = some t → args[j]? = some v → Value.okWide Tryd.prog W .any base t v)
    (hA : DataW.TrodAll enc Tryd.prog W 0 (fun _ => true) true Tryd.f6.params.toList args.toList ds p) :
    Calls Tryd.prog 6 args W fun e w' => e = .returned (.bool true) ∧ Below W.heap.size W w' := by
  rw [Tryd.params6] at hl hval hA
  obtain ⟨v0, d0, rfl, rfl, h0⟩ := trodAll_one hA
  obtain ⟨n, bs, hx, hm⟩ := open_bytes Tryd.underlying37 Tryd.underlying5 (by kernel_rfl) (hval 0 37 v0 rfl rfl) h0
  exact lawVectors v0 n bs W hx hm (tab_of5 hL) (errs_of5 hL)

set_option maxRecDepth 100000 in
theorem FnVectors_lifted (os : Os) (started : os.Started) (H : Type) (enc : TypeId × Value → H) :
    ReturnsInHanded {} Tryd.checked os 6 .any (fun w args => (Rows.fnVectorsSpec.pre enc Tryd.prog Tryd.f6 [] false w args ∧ laidMetH Tryd.prog laid5 w) ∧ sizedMet enc Tryd.prog Tryd.f6 (OpenSpec.ofChange Rows.fnVectorsSpec) false w args)
      (Rows.fnVectorsSpec.post enc Tryd.prog Tryd.f6 false true false false) := by
  refine returnsInHanded_of_change_and (C := Tryd.checked) (X := fun w _ => laidMetH Tryd.prog laid5 w) (fun _ _ _ hh h => h.of_heap hh) own started (by kernel_rfl) Tryd.func6
    (ChangeSpec.witness_shaped (enc := enc) (C := Tryd.checked) (os := os) (X := fun w _ => laidMetH Tryd.prog laid5 w) false (World.doorLaid Tryd.prog 62 os) #[.slice none 0 0] 8 rfl (World.shaped_of_RefB (by kernel_rfl) (by kernel_rfl)) (by kernel_rfl) (by kernel_rfl) (by kernel_rfl) (door5_met os _)) ?_
  intro W base args ds gs before hval hW _ _ hL _
  exact Fr.contractAt (P := Tryd.prog) (tb := 4) laidOut (by kernel_rfl) rfl rfl (by kernel_rfl) (fun ds hl => by match ds, hl with | [_], _ => rfl) W base args (fun ds p => FnVectors_run W base args ds p hL) ds gs before hval hW

theorem FnVectors_row : Rows.FnVectorsSaid :=
  OpenClaim.holds_of_wide 6 Tryd.f6 rfl rfl rfl rfl rfl rfl rfl ⟨rfl, rfl, rfl, rfl, rfl⟩ rfl rfl rfl rfl rfl (by kernel_rfl) Tryd.func6 (by kernel_rfl)
    (of_decide_eq_true (by kernel_rfl)) (by unfold Func.isWrapper; first | (rw [if_pos (by decide +kernel)]; kernel_rfl) | (rw [if_neg (by decide +kernel)]; exact ⟨rfl, rfl⟩))
    (fun os started H enc _ => FnVectors_lifted os started H enc)

theorem FnVectors_holds : Rows.FnVectorsCardSaid :=
  Claim7.holds_tied_plain_at .later [] _ true _ _ FnVectors_row (fun _ h => by cases h) (by kernel_rfl) (fun _ h => by cases h) fnVectors_row_tie rfl ⟨rfl, rfl⟩ (by kernel_rfl) rfl
    (fun f fn hf hfn => by
      obtain rfl : f = 6 := Option.some.inj ((show Tryd.prog.funcNamed Rows.fnVectorsRow.func = some 6 by kernel_rfl).symm.trans hf) |>.symm
      obtain rfl : fn = Tryd.f6 := (Option.some.inj (Tryd.func6.symm.trans hfn)).symm
      exact ⟨by kernel_rfl, fun j t ht => by
        have hm : t ∈ Tryd.f6.params.toList := by simpa using Array.mem_of_getElem? ht
        have hall : (Tryd.f6.params.toList.all fun u => !Tryd.prog.wantsStandIn u) = true := by kernel_rfl
        exact (show Tryd.prog.wantsStandIn t = false by simpa using List.all_eq_true.1 hall t hm)⟩)
    (by kernel_rfl)
#print axioms FnVectors_holds
end Go.Proofs.YtnibknaemgpjdaaDoor
