/- Lerp, of the program and of the reference. -/
import Derived.Test.YtnibknaemgpjdaaDoorVec6
namespace Go.Proofs.YtnibknaemgpjdaaDoor
open Go.RowKit

/-- Are the weights of Lerp in range? -/
def okL (i n : Int) : Bool := inB n 1 4096 && inB i 0 n
def leZ (a b i n : Int) : Int := if okL i n then fdZ (cl a * (n - i) + cl b * i) n else cl a
theorem leZ_ok {a b i n : Int} (h1 : inB n 1 4096 = true) (h2 : inB i 0 n = true) : leZ a b i n = fdZ (cl a * (n - i) + cl b * i) n := by unfold leZ okL; rw [h1, h2]; rfl
theorem leZ_ok2 {a b i n : Int} (h1 : inB n 1 4096 = true) (h2 : inB i 0 n = true) : leZ a b i n = fdZ ((n - i) * cl a + i * cl b) n := by rw [leZ_ok h1 h2, Int.mul_comm (cl a), Int.mul_comm (cl b)]
theorem leZ_no1 {a b i n : Int} (h1 : inB n 1 4096 = false) : leZ a b i n = cl a := by unfold leZ okL; rw [h1]; rfl
theorem leZ_no2 {a b i n : Int} (h1 : inB n 1 4096 = true) (h2 : inB i 0 n = false) : leZ a b i n = cl a := by unfold leZ okL; rw [h1, h2]; rfl
set_option maxHeartbeats 4000000 in
theorem lerpI (x y z x1 y1 z1 i n : Int) (w : World) :
    Calls Tryd.prog 31 #[.agg #[.int .i64 (x), .int .i64 (y), .int .i64 (z)], .agg #[.int .i64 (x1), .int .i64 (y1), .int .i64 (z1)], .int .i64 i, .int .i64 n] w fun e w' => e = .returned (vec (leZ x x1 i n) (leZ y y1 i n) (leZ z z1 i n)) ∧ Below w.heap.size w w' := by
  have hB := below3 w (.cells #[.int .i64 (x), .int .i64 (y), .int .i64 (z)] 23) (.cells #[.int .i64 (x1), .int .i64 (y1), .int .i64 (z1)] 23) (.cells #[.int .i64 (0), .int .i64 (0), .int .i64 (0)] 23)
  obtain ⟨b0, b1, b2⟩ := blk3 w #[.int .i64 (x), .int .i64 (y), .int .i64 (z)] #[.int .i64 (x1), .int .i64 (y1), .int .i64 (z1)] #[.int .i64 (0), .int .i64 (0), .int .i64 (0)] 23 23 23
  go_enter Tryd.func31, Tryd.ntmps31
  go_upto_region 1 with fail
  generalize (((w.alloc (.cells #[.int .i64 (x), .int .i64 (y), .int .i64 (z)] 23)).alloc (.cells #[.int .i64 (x1), .int .i64 (y1), .int .i64 (z1)] 23)).alloc (.cells #[.int .i64 (0), .int .i64 (0), .int .i64 (0)] 23)) = W0 at hB b0 b1 b2 ⊢
  have hB0 := hB
  have c0 := b0.cell
  have f0 := b0.frozen
  have l0 := b0.lt
  have c1 := b1.cell
  have f1 := b1.frozen
  have l1 := b1.lt
  have c2 := b2.cell
  have f2 := b2.frozen
  have l2 := b2.lt
  go_cut [] (fun wx => Blk wx w.heap.size 23 #[.int .i64 (cl x), .int .i64 (cl y), .int .i64 (cl z)] ∧ Blk wx (w.heap.size + 1) 23 #[.int .i64 (cl x1), .int .i64 (cl y1), .int .i64 (cl z1)] ∧ Blk wx (w.heap.size + 1 + 1) 23 #[.int .i64 (0), .int .i64 (0), .int .i64 (0)] ∧ Below w.heap.size w wx)
  case first =>
    go_region_with (first | (go_at_call 63; refine (clamped_any _ _ _ _).mono ?_; rintro e w1 ⟨rfl, hb⟩; have hB := (by with_reducible first | exact b_keep hb hB | exact b_keep hb hB.drew); replace b0 : Blk w1 _ _ _ := (by with_reducible first | exact Blk.keep hb b0 | exact Blk.keep hb b0.drew); replace b1 : Blk w1 _ _ _ := (by with_reducible first | exact Blk.keep hb b1 | exact Blk.keep hb b1.drew); replace b2 : Blk w1 _ _ _ := (by with_reducible first | exact Blk.keep hb b2 | exact Blk.keep hb b2.drew); replace l0 := b0.lt; replace l1 := b1.lt; replace l2 := b2.lt; replace c0 := b0.cell; replace c1 := b1.cell; replace c2 := b2.cell; replace f0 := b0.frozen; replace f1 := b1.frozen; replace f2 := b2.frozen))
    all_goals
      go_wp2_with fail
      go_meet
      first
        | exact ⟨(b0.set3 _ _ _).far3 (by omega) _ _ _, (b1.far3 (by omega) _ _ _).set3 _ _ _, (b2.far3 (by omega) _ _ _).far3 (by omega) _ _ _, below_set3 (below_set3 hB (by omega) _ _ _) (by omega) _ _ _⟩
        | exact ⟨(b0.far3 (by omega) _ _ _).set3 _ _ _, (b1.set3 _ _ _).far3 (by omega) _ _ _, (b2.far3 (by omega) _ _ _).far3 (by omega) _ _ _, below_set3 (below_set3 hB (by omega) _ _ _) (by omega) _ _ _⟩
  case rest =>
    obtain ⟨b0, b1, b2, hB⟩ := hcut
    clear hB0
    have c0 := b0.cell
    have f0 := b0.frozen
    have l0 := b0.lt
    have c1 := b1.cell
    have f1 := b1.frozen
    have l1 := b1.lt
    have c2 := b2.cell
    have f2 := b2.frozen
    have l2 := b2.lt
    go_wp2_with fail
    refine (within_any _ _ _ _).mono ?_
    rintro e w2 ⟨rfl, rfl⟩
    cases h1 : inB n 1 4096
    · have E := fun a b => leZ_no1 (a := a) (b := b) (i := i) h1
      have HE := Lib.hid E
      clear E
      go_wp2
      exact bodyPost_ret (v := vec (leZ x x1 i n) (leZ y y1 i n) (leZ z z1 i n)) (by simp [results, Tryd.results31, go_sem, c2, HE.out]) rfl ⟨rfl, ((hB.setCell (by dsimp only; omega) _).setCell (by dsimp only; omega) _).setCell (by dsimp only; omega) _⟩
    · cases h2 : inB i 0 n
      · have E := fun a b => leZ_no2 (a := a) (b := b) h1 h2
        have HE := Lib.hid E
        clear E
        go_wp2_with (go_at_call 68; refine (within_any _ _ _ _).mono ?_; rintro e w' ⟨rfl, rfl⟩)
        exact bodyPost_ret (v := vec (leZ x x1 i n) (leZ y y1 i n) (leZ z z1 i n)) (by simp [results, Tryd.results31, go_sem, c2, HE.out]) rfl ⟨rfl, ((hB.setCell (by dsimp only; omega) _).setCell (by dsimp only; omega) _).setCell (by dsimp only; omega) _⟩
      · have HE := Lib.hid (fun a b => leZ_ok2 (a := a) (b := b) h1 h2)
        obtain ⟨n1, n2⟩ := inB_iff.1 h1
        obtain ⟨i1, i2⟩ := inB_iff.1 h2
        have px := cl_mul2 x (b := n - i) (by omega) (by omega)
        have px1 := cl_mul2 x1 (b := i) (by omega) (by omega)
        rw [Int.mul_comm] at px px1
        have py := cl_mul2 y (b := n - i) (by omega) (by omega)
        have py1 := cl_mul2 y1 (b := i) (by omega) (by omega)
        rw [Int.mul_comm] at py py1
        have pz := cl_mul2 z (b := n - i) (by omega) (by omega)
        have pz1 := cl_mul2 z1 (b := i) (by omega) (by omega)
        rw [Int.mul_comm] at pz pz1
        have HT1 := Lib.hid (times_any (cl x) (cl y) (cl z) (n - i) (by omega) (by omega) (by omega) (by omega) (by omega) (by omega))
        have HT2 := Lib.hid (times_any (cl x1) (cl y1) (cl z1) i (by omega) (by omega) (by omega) (by omega) (by omega) (by omega))
        have HP := Lib.hid (plus_any ((n - i) * cl x) ((n - i) * cl y) ((n - i) * cl z) (i * cl x1) (i * cl y1) (i * cl z1) (by omega) (by omega) (by omega) (by omega) (by omega) (by omega) (by omega) (by omega) (by omega) (by omega) (by omega) (by omega))
        have HV := Lib.hid (over_any ((n - i) * cl x + i * cl x1) ((n - i) * cl y + i * cl y1) ((n - i) * cl z + i * cl z1) n (by omega) (by omega) (by omega) (by omega) (by omega) (by omega))
        have ei := Lib.hid (show IntKind.i64.wrap (n - i) = n - i from wrapB (by omega) (by omega))
        clear px py pz px1 py1 pz1 n1 n2 i1 i2
        replace ei := ei.out
        go_wp2_with (go_at_call 68; refine (within_any _ _ _ _).mono ?_; rintro e w' ⟨rfl, rfl⟩)
        go_region_held3 (fun w' => (∀ i, w'.cell? ⟨w.heap.size, i, none⟩ = (#[.int .i64 (cl x), .int .i64 (cl y), .int .i64 (cl z)] : Array Value)[i]?) ∧ (∀ i, w'.cell? ⟨w.heap.size + 1, i, none⟩ = (#[.int .i64 (cl x1), .int .i64 (cl y1), .int .i64 (cl z1)] : Array Value)[i]?)) (first | with_reducible exact ⟨b0.cell, b1.cell⟩ | with_reducible exact ⟨b0.drew.cell, b1.drew.cell⟩ | with_reducible exact ⟨(b0.alloc _).cell, (b1.alloc _).cell⟩ | with_reducible exact ⟨(b0.alloc _).drew.cell, (b1.alloc _).drew.cell⟩ | exact ⟨(b0.far3 (by omega) _ _ _).cell, (b1.far3 (by omega) _ _ _).cell⟩ | exact ⟨(b0.far3 (by omega) _ _ _).drew.cell, (b1.far3 (by omega) _ _ _).drew.cell⟩ | go_keep)
          (first
            | (go_at_call 65; (first | (with_reducible refine (HT1.out _).mono ?_) | (with_reducible refine (HT2.out _).mono ?_)); rintro e w1 ⟨rfl, hb⟩; have hB := (by with_reducible first | exact b_keep hb hB | exact b_keep hb hB.drew); replace b0 : Blk w1 _ _ _ := (by with_reducible first | exact Blk.keep hb b0 | exact Blk.keep hb b0.drew); replace b1 : Blk w1 _ _ _ := (by with_reducible first | exact Blk.keep hb b1 | exact Blk.keep hb b1.drew); replace b2 : Blk w1 _ _ _ := (by with_reducible first | exact Blk.keep hb b2 | exact Blk.keep hb b2.drew); replace l0 := b0.lt; replace l1 := b1.lt; replace l2 := b2.lt; replace c0 := b0.cell; replace c1 := b1.cell; replace c2 := b2.cell; replace f0 := b0.frozen; replace f1 := b1.frozen; replace f2 := b2.frozen)
            | (go_at_call 64; refine (HP.out _).mono ?_; rintro e w1 ⟨rfl, hb⟩; have hB := (by with_reducible first | exact b_keep hb hB | exact b_keep hb hB.drew); replace b0 : Blk w1 _ _ _ := (by with_reducible first | exact Blk.keep hb b0 | exact Blk.keep hb b0.drew); replace b1 : Blk w1 _ _ _ := (by with_reducible first | exact Blk.keep hb b1 | exact Blk.keep hb b1.drew); replace b2 : Blk w1 _ _ _ := (by with_reducible first | exact Blk.keep hb b2 | exact Blk.keep hb b2.drew); replace l0 := b0.lt; replace l1 := b1.lt; replace l2 := b2.lt; replace c0 := b0.cell; replace c1 := b1.cell; replace c2 := b2.cell; replace f0 := b0.frozen; replace f1 := b1.frozen; replace f2 := b2.frozen)
            | (go_at_call 69; refine (HV.out _).mono ?_; rintro e w1 ⟨rfl, hb⟩; have hB := (by with_reducible first | exact b_keep hb hB | exact b_keep hb hB.drew); replace b0 : Blk w1 _ _ _ := (by with_reducible first | exact Blk.keep hb b0 | exact Blk.keep hb b0.drew); replace b1 : Blk w1 _ _ _ := (by with_reducible first | exact Blk.keep hb b1 | exact Blk.keep hb b1.drew); replace b2 : Blk w1 _ _ _ := (by with_reducible first | exact Blk.keep hb b2 | exact Blk.keep hb b2.drew); replace l0 := b0.lt; replace l1 := b1.lt; replace l2 := b2.lt; replace c0 := b0.cell; replace c1 := b1.cell; replace c2 := b2.cell; replace f0 := b0.frozen; replace f1 := b1.frozen; replace f2 := b2.frozen))
        clear ei
        go_wp2
        exact bodyPost_ret (v := vec (leZ x x1 i n) (leZ y y1 i n) (leZ z z1 i n)) (by simp [results, Tryd.results31, go_sem, c2, HE.out]) rfl ⟨rfl, ((hB.setCell (by dsimp only; omega) _).setCell (by dsimp only; omega) _).setCell (by dsimp only; omega) _⟩
end Go.Proofs.YtnibknaemgpjdaaDoor
