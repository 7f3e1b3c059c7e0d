/- Scale, Lerp, of the program and of the reference. -/
import Derived.Test.YtnibknaemgpjdaaDoorVecS
import Derived.Test.YtnibknaemgpjdaaDoorDot
import Derived.Deep.DeepCutAuto
namespace Go.Proofs.YtnibknaemgpjdaaDoor
open Go.RowKit

theorem wrapB {e : Int} (h1 : -9000000000000000000 ≤ e) (h2 : e ≤ 9000000000000000000) : IntKind.i64.wrap e = e := by
  rw [IntKind.wrap_i64]; omega
theorem mul_bd2 {a b : Int} (h1 : -1000000 ≤ a) (h2 : a ≤ 1000000) (h3 : -4096 ≤ b) (h4 : b ≤ 4096) : -4096000000 ≤ a * b ∧ a * b ≤ 4096000000 := by
  have e1 : (a + 1000000) * (b + 4096) = a * b + 4096 * a + 1000000 * b + 4096000000 := by rw [Int.add_mul, Int.mul_add, Int.mul_add]; omega
  have e2 : (1000000 - a) * (b + 4096) = 1000000 * b + 4096000000 - a * b - 4096 * a := by rw [Int.sub_mul, Int.mul_add, Int.mul_add]; omega
  have e3 : (a + 1000000) * (4096 - b) = 4096 * a - a * b + 4096000000 - 1000000 * b := by rw [Int.add_mul, Int.mul_sub, Int.mul_sub]; omega
  have e4 : (1000000 - a) * (4096 - b) = 4096000000 - 1000000 * b - 4096 * a + a * b := by rw [Int.sub_mul, Int.mul_sub, Int.mul_sub]; omega
  have p1 : 0 ≤ (a + 1000000) * (b + 4096) := Int.mul_nonneg (by omega) (by omega)
  have p2 : 0 ≤ (1000000 - a) * (b + 4096) := Int.mul_nonneg (by omega) (by omega)
  have p3 : 0 ≤ (a + 1000000) * (4096 - b) := Int.mul_nonneg (by omega) (by omega)
  have p4 : 0 ≤ (1000000 - a) * (4096 - b) := Int.mul_nonneg (by omega) (by omega)
  constructor <;> omega
theorem cl_mul2 (a : Int) {b : Int} (h3 : -4096 ≤ b) (h4 : b ≤ 4096) : -4096000000 ≤ cl a * b ∧ cl a * b ≤ 4096000000 := mul_bd2 (cl_bd a).1 (cl_bd a).2 h3 h4

/-- Are the factors of Scale in range? -/
def okS (i n : Int) : Bool := inB n 1 4096 && inB i (-4096) 4096
def scZ (a i n : Int) : Int := if okS i n then cl (fdZ (cl a * i) n) else cl a

set_option maxHeartbeats 2000000 in
theorem scaleI (x y z i n : Int) (w : World) :
    Calls Tryd.prog 34 #[.agg #[.int .i64 (x), .int .i64 (y), .int .i64 (z)], .int .i64 i, .int .i64 n] w fun e w' => e = .returned (vec (scZ x i n) (scZ y i n) (scZ z i n)) ∧ Below w.heap.size w w' := by
  have hB := below2 w (.cells #[.int .i64 (x), .int .i64 (y), .int .i64 (z)] 23) (.cells #[.int .i64 (0), .int .i64 (0), .int .i64 (0)] 23)
  obtain ⟨b0, b1⟩ := blk2 w #[.int .i64 (x), .int .i64 (y), .int .i64 (z)] #[.int .i64 (0), .int .i64 (0), .int .i64 (0)] 23 23
  have HS : ∀ a, Hid (scZ a i n = if okS i n then cl (fdZ (cl a * i) n) else cl a) := fun a => Lib.hid rfl
  have HO := Lib.hid (show okS i n = (inB n 1 4096 && inB i (-4096) 4096) from rfl)
  go_enter Tryd.func34, Tryd.ntmps34
  go_wp2_with fail
  generalize (w.alloc (.cells #[.int .i64 (x), .int .i64 (y), .int .i64 (z)] 23)).alloc (.cells #[.int .i64 (0), .int .i64 (0), .int .i64 (0)] 23) = W0 at hB b0 b1 ⊢
  have c0 := b0.cell
  have f0 := b0.frozen
  have l0 := b0.lt
  have c1 := b1.cell
  have f1 := b1.frozen
  have l1 := b1.lt
  refine (clamped_any _ _ _ _).mono ?_
  rintro e w1 ⟨rfl, hb⟩
  have hB := (by with_reducible first | exact b_keep hb hB | exact b_keep hb hB.drew)
  replace b0 : Blk w1 _ _ _ := (by with_reducible first | exact Blk.keep hb b0 | exact Blk.keep hb b0.drew)
  replace b1 : Blk w1 _ _ _ := (by with_reducible first | exact Blk.keep hb b1 | exact Blk.keep hb b1.drew)
  replace l0 := b0.lt
  replace l1 := b1.lt
  replace c0 := b0.cell
  replace c1 := b1.cell
  replace f0 := b0.frozen
  replace f1 := b1.frozen
  clear hb
  go_wp2_with fail
  replace hB := below_set3 hB (show w.heap.size ≤ w.heap.size by omega) (.int .i64 (cl x)) (.int .i64 (cl y)) (.int .i64 (cl z))
  replace b1 := b1.far3 (show w.heap.size + 1 ≠ w.heap.size by omega) (.int .i64 (cl x)) (.int .i64 (cl y)) (.int .i64 (cl z))
  replace b0 := b0.set3 (.int .i64 (cl x)) (.int .i64 (cl y)) (.int .i64 (cl z))
  generalize ((w1.setCell ⟨w.heap.size, 0, none⟩ (.int .i64 (cl x))).setCell ⟨w.heap.size, 1, none⟩ (.int .i64 (cl y))).setCell ⟨w.heap.size, 2, none⟩ (.int .i64 (cl z)) = W1 at hB b0 b1 ⊢
  clear c0 c1 f0 f1 l0 l1
  have c0 := b0.cell
  have f0 := b0.frozen
  have l0 := b0.lt
  have c1 := b1.cell
  have f1 := b1.frozen
  have l1 := b1.lt
  refine (within_any _ _ _ _).mono ?_
  rintro e w2 ⟨rfl, rfl⟩
  cases h1 : inB n 1 4096
  · go_wp2
    exact bodyPost_ret (v := vec (scZ x i n) (scZ y i n) (scZ z i n)) (by simp [results, Tryd.results34, go_sem, c1, (HS _).out, HO.out, h1]) rfl ⟨rfl, ((hB.setCell (by dsimp only; omega) _).setCell (by dsimp only; omega) _).setCell (by dsimp only; omega) _⟩
  · cases h2 : inB i (-4096) 4096
    · go_wp2_with (go_at_call 68; refine (within_any _ _ _ _).mono ?_; rintro e w' ⟨rfl, rfl⟩)
      exact bodyPost_ret (v := vec (scZ x i n) (scZ y i n) (scZ z i n)) (by simp [results, Tryd.results34, go_sem, c1, (HS _).out, HO.out, h1, h2]) rfl ⟨rfl, ((hB.setCell (by dsimp only; omega) _).setCell (by dsimp only; omega) _).setCell (by dsimp only; omega) _⟩
    · obtain ⟨n1, n2⟩ := inB_iff.1 h1
      obtain ⟨i1, i2⟩ := inB_iff.1 h2
      have px := cl_mul2 x i1 i2
      have py := cl_mul2 y i1 i2
      have pz := cl_mul2 z i1 i2
      have HT := Lib.hid (times_any (cl x) (cl y) (cl z) i (by rw [Int.mul_comm]; omega) (by rw [Int.mul_comm]; omega) (by rw [Int.mul_comm]; omega) (by rw [Int.mul_comm]; omega) (by rw [Int.mul_comm]; omega) (by rw [Int.mul_comm]; omega))
      have HV := Lib.hid (over_any (i * cl x) (i * cl y) (i * cl z) n (by rw [Int.mul_comm]; omega) (by rw [Int.mul_comm]; omega) (by rw [Int.mul_comm]; omega) (by rw [Int.mul_comm]; omega) (by rw [Int.mul_comm]; omega) (by rw [Int.mul_comm]; omega))
      clear px py pz n1 n2 i1 i2
      have e1 : ∀ a, scZ a i n = cl (fdZ (i * cl a) n) := fun a => by rw [(HS a).out, HO.out, h1, h2, Int.mul_comm]; rfl
      have E1 := Lib.hid e1
      clear e1 HS HO
      go_wp2_with (go_at_call 68; refine (within_any _ _ _ _).mono ?_; rintro e w' ⟨rfl, rfl⟩)
      refine (HT.out _).mono ?_
      rintro e w1 ⟨rfl, hb⟩
      have hB := (by with_reducible first | exact b_keep hb hB | exact b_keep hb hB.drew)
      replace b0 : Blk w1 _ _ _ := (by with_reducible first | exact Blk.keep hb b0 | exact Blk.keep hb b0.drew)
      replace b1 : Blk w1 _ _ _ := (by with_reducible first | exact Blk.keep hb b1 | exact Blk.keep hb b1.drew)
      replace l0 := b0.lt
      replace l1 := b1.lt
      replace c0 := b0.cell
      replace c1 := b1.cell
      replace f0 := b0.frozen
      replace f1 := b1.frozen
      clear hb
      go_wp2_with fail
      refine (HV.out _).mono ?_
      rintro e w1 ⟨rfl, hb⟩
      have hB := (by with_reducible first | exact b_keep hb hB | exact b_keep hb hB.drew)
      replace b0 : Blk w1 _ _ _ := (by with_reducible first | exact Blk.keep hb b0 | exact Blk.keep hb b0.drew)
      replace b1 : Blk w1 _ _ _ := (by with_reducible first | exact Blk.keep hb b1 | exact Blk.keep hb b1.drew)
      replace l0 := b0.lt
      replace l1 := b1.lt
      replace c0 := b0.cell
      replace c1 := b1.cell
      replace f0 := b0.frozen
      replace f1 := b1.frozen
      clear hb
      go_wp2_with fail
      refine (clamped_any _ _ _ _).mono ?_
      rintro e w1 ⟨rfl, hb⟩
      have hB := (by with_reducible first | exact b_keep hb hB | exact b_keep hb hB.drew)
      replace b0 : Blk w1 _ _ _ := (by with_reducible first | exact Blk.keep hb b0 | exact Blk.keep hb b0.drew)
      replace b1 : Blk w1 _ _ _ := (by with_reducible first | exact Blk.keep hb b1 | exact Blk.keep hb b1.drew)
      replace l0 := b0.lt
      replace l1 := b1.lt
      replace c0 := b0.cell
      replace c1 := b1.cell
      replace f0 := b0.frozen
      replace f1 := b1.frozen
      clear hb
      go_wp2
      exact bodyPost_ret (v := vec (scZ x i n) (scZ y i n) (scZ z i n)) (by simp [results, Tryd.results34, go_sem, c1, E1.out]) rfl ⟨rfl, ((hB.setCell (by dsimp only; omega) _).setCell (by dsimp only; omega) _).setCell (by dsimp only; omega) _⟩
end Go.Proofs.YtnibknaemgpjdaaDoor
