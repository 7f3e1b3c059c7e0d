/- Dot, of the program and of the reference. -/
import Derived.Test.YtnibknaemgpjdaaDoorVecW
import Derived.Deep.DeepCutAuto
namespace Go.Proofs.YtnibknaemgpjdaaDoor
open Go.RowKit

/-- A product of two coordinates. -/
theorem mul_bd {a b : Int} (h1 : -1000000 ≤ a) (h2 : a ≤ 1000000) (h3 : -1000000 ≤ b) (h4 : b ≤ 1000000) : -1000000000000 ≤ a * b ∧ a * b ≤ 1000000000000 := by
  have e1 : (a + 1000000) * (b + 1000000) = a * b + 1000000 * a + 1000000 * b + 1000000000000 := by rw [Int.add_mul, Int.mul_add, Int.mul_add]; omega
  have e2 : (1000000 - a) * (b + 1000000) = 1000000 * b + 1000000000000 - a * b - 1000000 * a := by rw [Int.sub_mul, Int.mul_add, Int.mul_add]; omega
  have e3 : (a + 1000000) * (1000000 - b) = 1000000 * a - a * b + 1000000000000 - 1000000 * b := by rw [Int.add_mul, Int.mul_sub, Int.mul_sub]; omega
  have e4 : (1000000 - a) * (1000000 - b) = 1000000000000 - 1000000 * b - 1000000 * a + a * b := by rw [Int.sub_mul, Int.mul_sub, Int.mul_sub]; omega
  have p1 : 0 ≤ (a + 1000000) * (b + 1000000) := Int.mul_nonneg (by omega) (by omega)
  have p2 : 0 ≤ (1000000 - a) * (b + 1000000) := Int.mul_nonneg (by omega) (by omega)
  have p3 : 0 ≤ (a + 1000000) * (1000000 - b) := Int.mul_nonneg (by omega) (by omega)
  have p4 : 0 ≤ (1000000 - a) * (1000000 - b) := Int.mul_nonneg (by omega) (by omega)
  constructor <;> omega
theorem cl_mul (a b : Int) : -1000000000000 ≤ cl a * cl b ∧ cl a * cl b ≤ 1000000000000 := mul_bd (cl_bd a).1 (cl_bd a).2 (cl_bd b).1 (cl_bd b).2
def dotZ (x y z x1 y1 z1 : Int) : Int := cl x * cl x1 + cl y * cl y1 + cl z * cl z1

set_option maxHeartbeats 2000000 in
theorem dotI (x y z x1 y1 z1 : Int) (w : World) :
    Calls Tryd.prog 30 #[.agg #[.int .i64 (x), .int .i64 (y), .int .i64 (z)], .agg #[.int .i64 (x1), .int .i64 (y1), .int .i64 (z1)]] w fun e w' => e = .returned (.int .i64 (dotZ x y z x1 y1 z1)) ∧ Below w.heap.size w w' := by
  have hx := cl_mul x x1
  have hy := cl_mul y y1
  have hz := cl_mul z z1
  have H := Lib.hid (with_dot (cl x) (cl y) (cl z) (cl x1) (cl y1) (cl z1) (by omega) (by omega) (by omega) (by omega) (by omega) (by omega))
  have HX := Lib.hid hx
  have HY := Lib.hid hy
  have HZ := Lib.hid hz
  clear hx hy hz
  have hB := below2 w (.cells #[.int .i64 (x), .int .i64 (y), .int .i64 (z)] 23) (.cells #[.int .i64 (x1), .int .i64 (y1), .int .i64 (z1)] 23)
  obtain ⟨b0, b1⟩ := blk2 w #[.int .i64 (x), .int .i64 (y), .int .i64 (z)] #[.int .i64 (x1), .int .i64 (y1), .int .i64 (z1)] 23 23
  go_enter Tryd.func30, Tryd.ntmps30
  go_upto_region 1 with fail
  generalize ((w.alloc (.cells #[.int .i64 (x), .int .i64 (y), .int .i64 (z)] 23)).alloc (.cells #[.int .i64 (x1), .int .i64 (y1), .int .i64 (z1)] 23)) = W0 at hB b0 b1 ⊢
  have hB0 := hB
  have c0 := b0.cell
  have f0 := b0.frozen
  have l0 := b0.lt
  have c1 := b1.cell
  have f1 := b1.frozen
  have l1 := b1.lt
  go_cut [5] (fun s wx => ∃ q : Nat, s = .pointer (some ⟨q, 0, none⟩) ∧ Blk wx q 23 #[.int .i64 (cl x * cl x1), .int .i64 (cl y * cl y1), .int .i64 (cl z * cl z1)] ∧ Below w.heap.size w wx)
  case first =>
    go_region_held3 (fun w' => (∀ i, w'.cell? ⟨w.heap.size, i, none⟩ = (#[.int .i64 (x), .int .i64 (y), .int .i64 (z)] : Array Value)[i]?) ∧ (∀ i, w'.cell? ⟨w.heap.size + 1, i, none⟩ = (#[.int .i64 (x1), .int .i64 (y1), .int .i64 (z1)] : Array Value)[i]?)) (first | with_reducible exact ⟨b0.cell, b1.cell⟩ | with_reducible exact ⟨b0.drew.cell, b1.drew.cell⟩ | with_reducible exact ⟨(b0.alloc _).cell, (b1.alloc _).cell⟩ | with_reducible exact ⟨(b0.alloc _).drew.cell, (b1.alloc _).drew.cell⟩ | exact ⟨(b0.far3 (by omega) _ _ _).cell, (b1.far3 (by omega) _ _ _).cell⟩ | exact ⟨(b0.far3 (by omega) _ _ _).drew.cell, (b1.far3 (by omega) _ _ _).drew.cell⟩ | go_keep)
      (first
        | (go_at_call 63; refine (clamped_any _ _ _ _).mono ?_; rintro e w1 ⟨rfl, hb⟩; (first | (replace bn := bn.keep hb) | (have bn : Blk w1 _ 23 #[.int .i64 (0), .int .i64 (0), .int .i64 (0)] := (by with_reducible first | exact Blk.keep hb (Blk.new _ _ _) | exact Blk.keep hb (Blk.new _ _ _).drew); have gq0 := b0.lt; have gq1 := b1.lt; have gq := hB.size) | skip); (first | (have cn := bn.cell; have fn := bn.frozen; have ln := bn.lt) | skip); replace hB := (by with_reducible first | exact b_keep hb hB | exact b_keep hb hB.drew | exact b_keep hb (hB.alloc hB.size _) | exact b_keep hb (hB.alloc hB.size _).drew); replace b0 : Blk w1 _ _ _ := (by with_reducible first | exact Blk.keep hb b0 | exact Blk.keep hb b0.drew | exact Blk.keep hb (b0.alloc _) | exact Blk.keep hb (b0.alloc _).drew); replace b1 : Blk w1 _ _ _ := (by with_reducible first | exact Blk.keep hb b1 | exact Blk.keep hb b1.drew | exact Blk.keep hb (b1.alloc _) | exact Blk.keep hb (b1.alloc _).drew); replace l0 := b0.lt; replace c0 := b0.cell; replace f0 := b0.frozen; replace l1 := b1.lt; replace c1 := b1.cell; replace f1 := b1.frozen)
        | (go_at_call 66; refine (H.out _).mono ?_; rintro e w1 ⟨rfl, hb⟩; (first | (replace bn := bn.keep hb) | (have bn : Blk w1 _ 23 #[.int .i64 (0), .int .i64 (0), .int .i64 (0)] := (by with_reducible first | exact Blk.keep hb (Blk.new _ _ _) | exact Blk.keep hb (Blk.new _ _ _).drew); have gq0 := b0.lt; have gq1 := b1.lt; have gq := hB.size) | skip); (first | (have cn := bn.cell; have fn := bn.frozen; have ln := bn.lt) | skip); replace hB := (by with_reducible first | exact b_keep hb hB | exact b_keep hb hB.drew | exact b_keep hb (hB.alloc hB.size _) | exact b_keep hb (hB.alloc hB.size _).drew); replace b0 : Blk w1 _ _ _ := (by with_reducible first | exact Blk.keep hb b0 | exact Blk.keep hb b0.drew | exact Blk.keep hb (b0.alloc _) | exact Blk.keep hb (b0.alloc _).drew); replace b1 : Blk w1 _ _ _ := (by with_reducible first | exact Blk.keep hb b1 | exact Blk.keep hb b1.drew | exact Blk.keep hb (b1.alloc _) | exact Blk.keep hb (b1.alloc _).drew); replace l0 := b0.lt; replace c0 := b0.cell; replace f0 := b0.frozen; replace l1 := b1.lt; replace c1 := b1.cell; replace f1 := b1.frozen))
    all_goals
      go_wp2_with fail
      go_meet
      first
        | with_reducible exact ⟨_, rfl, Blk.new _ _ _, hB.alloc hB.size _⟩
        | exact ⟨_, rfl, bn.set3 _ _ _, below_set3 hB gq _ _ _⟩
  case rest =>
    obtain ⟨q, rfl, b0, hB⟩ := hcut
    clear hB0
    have c0 := b0.cell
    have f0 := b0.frozen
    have l0 := b0.lt
    obtain ⟨hx1, hx2⟩ := HX.out
    obtain ⟨hy1, hy2⟩ := HY.out
    obtain ⟨hz1, hz2⟩ := HZ.out
    go_wp2
    go_ret
    exact ⟨rfl, hB⟩
end Go.Proofs.YtnibknaemgpjdaaDoor
