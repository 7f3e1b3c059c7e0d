/- Contracts of the functions on vectors, continued: Add, Dot, IsValidVec, of the program and of the reference. -/
import Derived.Test.YtobfccoljijnkaaVec2
namespace Go.Proofs.Ytobfccoljijnkaa
open Go.RowKit

/-- Is each component a coordinate? -/
def vb (x y z : Int) : Bool := decide (x = cl x) && (decide (y = cl y) && decide (z = cl z))
/-- '==' on two vectors. -/
theorem equalIn_vec (a b c d e f : Int) (w : World) : (Op.equalIn 10000 26 (.agg #[.int .i64 (a), .int .i64 (b), .int .i64 (c)]) (.agg #[.int .i64 (d), .int .i64 (e), .int .i64 (f)])).run Try.prog w = .ok (decide (a = d) && (decide (b = e) && decide (c = f))) w := by
  have hS : Try.prog.underlying 26 = some (.struct (Try.prog.fieldsOf 26)) := by kernel_rfl
  have hp : Try.prog.stoodInHeld 26 = false := by kernel_rfl
  rw [show (10000 : Nat) = 9999 + 1 from rfl, run_equalIn_agg w 9999 26 _ _ hS hp]
  simp only [Program.fieldsOf, Try.underlying26]
  go_simp
  by_cases h1 : a = d <;> by_cases h2 : b = e <;> by_cases h3 : c = f <;> simp [h1, h2, h3]
theorem guard_vec : Try.prog.eqGuardType Try.prog.depth 26 = false := by kernel_rfl

set_option maxHeartbeats 2000000 in
theorem addI (x y z x1 y1 z1 : Int) (w : World) :
    Calls Try.prog 50 #[.agg #[.int .i64 (x), .int .i64 (y), .int .i64 (z)], .agg #[.int .i64 (x1), .int .i64 (y1), .int .i64 (z1)]] w
      fun e w' => e = .returned (vec (cl (cl x + cl x1)) (cl (cl y + cl y1)) (cl (cl z + cl z1))) ∧ Below w.heap.size w w' := by
  have bx := cl_bd x
  have by' := cl_bd y
  have bz := cl_bd z
  have bx1 := cl_bd x1
  have by1 := cl_bd y1
  have bz1 := cl_bd z1
  have H := Lib.hid (plus_any (cl x) (cl y) (cl z) (cl x1) (cl y1) (cl z1) (by omega) (by omega) (by omega) (by omega) (by omega) (by omega) (by omega) (by omega) (by omega) (by omega) (by omega) (by omega))
  clear bx by' bz bx1 by1 bz1
  have hB := below3 w (.cells #[.int .i64 (x), .int .i64 (y), .int .i64 (z)] 26) (.cells #[.int .i64 (x1), .int .i64 (y1), .int .i64 (z1)] 26) (.cells #[.int .i64 (0), .int .i64 (0), .int .i64 (0)] 26)
  obtain ⟨b0, b1, b2⟩ := blk3 w #[.int .i64 (x), .int .i64 (y), .int .i64 (z)] #[.int .i64 (x1), .int .i64 (y1), .int .i64 (z1)] #[.int .i64 (0), .int .i64 (0), .int .i64 (0)] 26 26 26
  go_enter Try.func50, Try.ntmps50
  go_wp2
  generalize (((w.alloc (.cells #[.int .i64 (x), .int .i64 (y), .int .i64 (z)] 26)).alloc (.cells #[.int .i64 (x1), .int .i64 (y1), .int .i64 (z1)] 26)).alloc (.cells #[.int .i64 (0), .int .i64 (0), .int .i64 (0)] 26)) = W0 at hB b0 b1 b2 ⊢
  have c0 := b0.cell
  have f0 := b0.frozen
  have l0 := b0.lt
  have c1 := b1.cell
  have f1 := b1.frozen
  have l1 := b1.lt
  have c2 := b2.cell
  have f2 := b2.frozen
  have l2 := b2.lt
  go_region_held3 (fun w' => (∀ i, w'.cell? ⟨w.heap.size, i, none⟩ = (#[.int .i64 (x), .int .i64 (y), .int .i64 (z)] : Array Value)[i]?) ∧ (∀ i, w'.cell? ⟨w.heap.size + 1, i, none⟩ = (#[.int .i64 (x1), .int .i64 (y1), .int .i64 (z1)] : Array Value)[i]?)) (first | exact ⟨c0, c1⟩ | exact ⟨far3 b0 (by omega) _ _ _, far3 b1 (by omega) _ _ _⟩ | go_keep)
    (first
      | (go_at_call 90; refine (H.out _).mono ?_; rintro e w1 ⟨rfl, hb⟩; have hB := (by with_reducible first | exact b_keep hb hB | exact b_keep hb hB.drew); replace b0 : Blk w1 _ _ _ := (by with_reducible first | exact Blk.keep hb b0 | exact Blk.keep hb b0.drew); replace b1 : Blk w1 _ _ _ := (by with_reducible first | exact Blk.keep hb b1 | exact Blk.keep hb b1.drew); replace b2 : Blk w1 _ _ _ := (by with_reducible first | exact Blk.keep hb b2 | exact Blk.keep hb b2.drew); replace l0 := b0.lt; replace l1 := b1.lt; replace l2 := b2.lt; replace c0 := b0.cell; replace c1 := b1.cell; replace c2 := b2.cell; replace f0 := b0.frozen; replace f1 := b1.frozen; replace f2 := b2.frozen)
      | (go_at_call 68; refine (clamped_any _ _ _ _).mono ?_; rintro e w1 ⟨rfl, hb⟩; have hB := (by with_reducible first | exact b_keep hb hB | exact b_keep hb hB.drew); replace b0 : Blk w1 _ _ _ := (by with_reducible first | exact Blk.keep hb b0 | exact Blk.keep hb b0.drew); replace b1 : Blk w1 _ _ _ := (by with_reducible first | exact Blk.keep hb b1 | exact Blk.keep hb b1.drew); replace b2 : Blk w1 _ _ _ := (by with_reducible first | exact Blk.keep hb b2 | exact Blk.keep hb b2.drew); replace l0 := b0.lt; replace l1 := b1.lt; replace l2 := b2.lt; replace c0 := b0.cell; replace c1 := b1.cell; replace c2 := b2.cell; replace f0 := b0.frozen; replace f1 := b1.frozen; replace f2 := b2.frozen))
  go_wp2
  exact bodyPost_ret (v := vec (cl (cl x + cl x1)) (cl (cl y + cl y1)) (cl (cl z + cl z1))) (by simp [results, Try.results50, go_sem, c2]) rfl ⟨rfl, ((hB.setCell (by simp; omega) _).setCell (by simp; omega) _).setCell (by simp; omega) _⟩
set_option maxHeartbeats 2000000 in
theorem addS (x y z x1 y1 z1 : Int) (w : World) :
    Calls Try.prog 53 #[.agg #[.int .i64 (x), .int .i64 (y), .int .i64 (z)], .agg #[.int .i64 (x1), .int .i64 (y1), .int .i64 (z1)]] w
      fun e w' => e = .returned (vec (cl (cl x + cl x1)) (cl (cl y + cl y1)) (cl (cl z + cl z1))) ∧ Below w.heap.size w w' := by
  have hB := below3 w (.cells #[.int .i64 (x), .int .i64 (y), .int .i64 (z)] 26) (.cells #[.int .i64 (x1), .int .i64 (y1), .int .i64 (z1)] 26) (.cells #[.int .i64 (0), .int .i64 (0), .int .i64 (0)] 26)
  obtain ⟨b0, b1, b2⟩ := blk3 w #[.int .i64 (x), .int .i64 (y), .int .i64 (z)] #[.int .i64 (x1), .int .i64 (y1), .int .i64 (z1)] #[.int .i64 (0), .int .i64 (0), .int .i64 (0)] 26 26 26
  go_enter Try.func53, Try.ntmps53
  go_wp2_with fail
  generalize (((w.alloc (.cells #[.int .i64 (x), .int .i64 (y), .int .i64 (z)] 26)).alloc (.cells #[.int .i64 (x1), .int .i64 (y1), .int .i64 (z1)] 26)).alloc (.cells #[.int .i64 (0), .int .i64 (0), .int .i64 (0)] 26)) = W0 at hB b0 b1 b2 ⊢
  have c0 := b0.cell
  have f0 := b0.frozen
  have l0 := b0.lt
  have c1 := b1.cell
  have f1 := b1.frozen
  have l1 := b1.lt
  have c2 := b2.cell
  have f2 := b2.frozen
  have l2 := b2.lt
  refine (l02V_any _ _ _ _).mono ?_
  rintro e w1 ⟨rfl, hb⟩
  have hB := (by with_reducible first | exact b_keep hb hB | exact b_keep hb hB.drew)
  replace b0 : Blk w1 _ _ _ := (by with_reducible first | exact Blk.keep hb b0 | exact Blk.keep hb b0.drew)
  replace b1 : Blk w1 _ _ _ := (by with_reducible first | exact Blk.keep hb b1 | exact Blk.keep hb b1.drew)
  replace b2 : Blk w1 _ _ _ := (by with_reducible first | exact Blk.keep hb b2 | exact Blk.keep hb b2.drew)
  replace l0 := b0.lt
  replace l1 := b1.lt
  replace l2 := b2.lt
  replace c0 := b0.cell
  replace c1 := b1.cell
  replace c2 := b2.cell
  replace f0 := b0.frozen
  replace f1 := b1.frozen
  replace f2 := b2.frozen
  clear hb
  go_wp2_with fail
  have d3_0 := b0.lt
  have d3_1 := b1.lt
  have d3_2 := b2.lt
  have g3 := hB.size
  replace b0 := b0.alloc (.cells #[.int .i64 (cl x), .int .i64 (cl y), .int .i64 (cl z)] 26)
  replace b1 := b1.alloc (.cells #[.int .i64 (cl x), .int .i64 (cl y), .int .i64 (cl z)] 26)
  replace b2 := b2.alloc (.cells #[.int .i64 (cl x), .int .i64 (cl y), .int .i64 (cl z)] 26)
  have b3 := Blk.new w1 26 #[.int .i64 (cl x), .int .i64 (cl y), .int .i64 (cl z)]
  replace hB := hB.alloc hB.size (.cells #[.int .i64 (cl x), .int .i64 (cl y), .int .i64 (cl z)] 26)
  clear c0 f0 l0 c1 f1 l1 c2 f2 l2
  generalize w1.heap.size = q3 at b3 g3 d3_0 d3_1 d3_2 ⊢
  generalize w1.alloc (.cells #[.int .i64 (cl x), .int .i64 (cl y), .int .i64 (cl z)] 26) = W3 at hB b0 b1 b2 b3 ⊢
  have c0 := b0.cell
  have f0 := b0.frozen
  have l0 := b0.lt
  have c1 := b1.cell
  have f1 := b1.frozen
  have l1 := b1.lt
  have c2 := b2.cell
  have f2 := b2.frozen
  have l2 := b2.lt
  have c3 := b3.cell
  have f3 := b3.frozen
  have l3 := b3.lt
  refine (l02V_any _ _ _ _).mono ?_
  rintro e w1 ⟨rfl, hb⟩
  have hB := (by with_reducible first | exact b_keep hb hB | exact b_keep hb hB.drew)
  replace b0 : Blk w1 _ _ _ := (by with_reducible first | exact Blk.keep hb b0 | exact Blk.keep hb b0.drew)
  replace b1 : Blk w1 _ _ _ := (by with_reducible first | exact Blk.keep hb b1 | exact Blk.keep hb b1.drew)
  replace b2 : Blk w1 _ _ _ := (by with_reducible first | exact Blk.keep hb b2 | exact Blk.keep hb b2.drew)
  replace b3 : Blk w1 _ _ _ := (by with_reducible first | exact Blk.keep hb b3 | exact Blk.keep hb b3.drew)
  replace l0 := b0.lt
  replace l1 := b1.lt
  replace l2 := b2.lt
  replace l3 := b3.lt
  replace c0 := b0.cell
  replace c1 := b1.cell
  replace c2 := b2.cell
  replace c3 := b3.cell
  replace f0 := b0.frozen
  replace f1 := b1.frozen
  replace f2 := b2.frozen
  replace f3 := b3.frozen
  clear hb
  have bx := cl_bd x
  have by' := cl_bd y
  have bz := cl_bd z
  have bx1 := cl_bd x1
  have by1 := cl_bd y1
  have bz1 := cl_bd z1
  go_wp2_with fail
  clear bx by' bz bx1 by1 bz1
  have d4_0 := b0.lt
  have d4_1 := b1.lt
  have d4_2 := b2.lt
  have d4_3 := b3.lt
  have g4 := hB.size
  replace b0 := b0.alloc (.cells #[.int .i64 (cl x1), .int .i64 (cl y1), .int .i64 (cl z1)] 26)
  replace b1 := b1.alloc (.cells #[.int .i64 (cl x1), .int .i64 (cl y1), .int .i64 (cl z1)] 26)
  replace b2 := b2.alloc (.cells #[.int .i64 (cl x1), .int .i64 (cl y1), .int .i64 (cl z1)] 26)
  replace b3 := b3.alloc (.cells #[.int .i64 (cl x1), .int .i64 (cl y1), .int .i64 (cl z1)] 26)
  have b4 := Blk.new w1 26 #[.int .i64 (cl x1), .int .i64 (cl y1), .int .i64 (cl z1)]
  replace hB := hB.alloc hB.size (.cells #[.int .i64 (cl x1), .int .i64 (cl y1), .int .i64 (cl z1)] 26)
  clear c0 f0 l0 c1 f1 l1 c2 f2 l2 c3 f3 l3
  generalize w1.heap.size = q4 at b4 g4 d4_0 d4_1 d4_2 d4_3 ⊢
  generalize w1.alloc (.cells #[.int .i64 (cl x1), .int .i64 (cl y1), .int .i64 (cl z1)] 26) = W4 at hB b0 b1 b2 b3 b4 ⊢
  have c0 := b0.cell
  have f0 := b0.frozen
  have l0 := b0.lt
  have c1 := b1.cell
  have f1 := b1.frozen
  have l1 := b1.lt
  have c2 := b2.cell
  have f2 := b2.frozen
  have l2 := b2.lt
  have c3 := b3.cell
  have f3 := b3.frozen
  have l3 := b3.lt
  have c4 := b4.cell
  have f4 := b4.frozen
  have l4 := b4.lt
  refine (l02V_any _ _ _ _).mono ?_
  rintro e w1 ⟨rfl, hb⟩
  have hB := (by with_reducible first | exact b_keep hb hB | exact b_keep hb hB.drew)
  replace b0 : Blk w1 _ _ _ := (by with_reducible first | exact Blk.keep hb b0 | exact Blk.keep hb b0.drew)
  replace b1 : Blk w1 _ _ _ := (by with_reducible first | exact Blk.keep hb b1 | exact Blk.keep hb b1.drew)
  replace b2 : Blk w1 _ _ _ := (by with_reducible first | exact Blk.keep hb b2 | exact Blk.keep hb b2.drew)
  replace b3 : Blk w1 _ _ _ := (by with_reducible first | exact Blk.keep hb b3 | exact Blk.keep hb b3.drew)
  replace b4 : Blk w1 _ _ _ := (by with_reducible first | exact Blk.keep hb b4 | exact Blk.keep hb b4.drew)
  replace l0 := b0.lt
  replace l1 := b1.lt
  replace l2 := b2.lt
  replace l3 := b3.lt
  replace l4 := b4.lt
  replace c0 := b0.cell
  replace c1 := b1.cell
  replace c2 := b2.cell
  replace c3 := b3.cell
  replace c4 := b4.cell
  replace f0 := b0.frozen
  replace f1 := b1.frozen
  replace f2 := b2.frozen
  replace f3 := b3.frozen
  replace f4 := b4.frozen
  clear hb
  go_wp2
  exact bodyPost_ret (v := vec (cl (cl x + cl x1)) (cl (cl y + cl y1)) (cl (cl z + cl z1))) (by simp [results, Try.results53, go_sem, c2]) rfl ⟨rfl, ((hB.setCell (by simp; omega) _).setCell (by simp; omega) _).setCell (by simp; omega) _⟩
end Go.Proofs.Ytobfccoljijnkaa
