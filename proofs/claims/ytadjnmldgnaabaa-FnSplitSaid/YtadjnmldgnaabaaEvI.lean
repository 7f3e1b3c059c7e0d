/- EvalPatch of the program. -/
import Derived.Test.YtadjnmldgnaabaaEv0
namespace Go.Proofs.Ytadjnmldgnaabaa
open Go.RowKit

set_option maxHeartbeats 8000000 in
theorem evalPatchI (p0 p1 p2 p3 p4 p5 p6 p7 p8 p9 p10 p11 i j n : Int) (w : World) :
    Calls Try.prog 14 #[.agg #[.int .i64 (p0), .int .i64 (p1), .int .i64 (p2), .int .i64 (p3), .int .i64 (p4), .int .i64 (p5), .int .i64 (p6), .int .i64 (p7), .int .i64 (p8), .int .i64 (p9), .int .i64 (p10), .int .i64 (p11)], .int .i64 i, .int .i64 j, .int .i64 n] w fun r w' => r = .returned (vec (evF p0 p3 p6 p9 i j n) (evF p1 p4 p7 p10 i j n) (evF p2 p5 p8 p11 i j n)) ∧ Below w.heap.size w w' := by
  have hB := below2 w (.cells #[.int .i64 (p0), .int .i64 (p1), .int .i64 (p2), .int .i64 (p3), .int .i64 (p4), .int .i64 (p5), .int .i64 (p6), .int .i64 (p7), .int .i64 (p8), .int .i64 (p9), .int .i64 (p10), .int .i64 (p11)] 36) (.cells #[.int .i64 (0), .int .i64 (0), .int .i64 (0)] 33)
  obtain ⟨b0, b1⟩ := blk2 w #[.int .i64 (p0), .int .i64 (p1), .int .i64 (p2), .int .i64 (p3), .int .i64 (p4), .int .i64 (p5), .int .i64 (p6), .int .i64 (p7), .int .i64 (p8), .int .i64 (p9), .int .i64 (p10), .int .i64 (p11)] #[.int .i64 (0), .int .i64 (0), .int .i64 (0)] 36 33
  go_enter Try.func14, Try.ntmps14
  go_wp2_with fail
  generalize ((w.alloc (.cells #[.int .i64 (p0), .int .i64 (p1), .int .i64 (p2), .int .i64 (p3), .int .i64 (p4), .int .i64 (p5), .int .i64 (p6), .int .i64 (p7), .int .i64 (p8), .int .i64 (p9), .int .i64 (p10), .int .i64 (p11)] 36)).alloc (.cells #[.int .i64 (0), .int .i64 (0), .int .i64 (0)] 33)) = W0 at hB b0 b1 ⊢
  have c0 := b0.cell
  have f0 := b0.frozen
  have l0 := b0.lt
  have c1 := b1.cell
  have f1 := b1.frozen
  have l1 := b1.lt
  refine (within_any _ _ _ _).mono ?_
  rintro r w2 ⟨rfl, rfl⟩
  cases h1 : inB n 1 64
  · have HE := Lib.hid (evF_no1 (i := i) (j := j) h1)
    go_wp2_with fail
    refine (clamped_any _ _ _ _).mono ?_
    rintro e w1 ⟨rfl, hb⟩
    have hB := (by with_reducible first | exact b_keep hb hB | exact b_keep hb hB.drew)
    replace b0 : Blk w1 _ _ _ := (by with_reducible first | exact Blk.keep hb b0 | exact Blk.keep hb b0.drew)
    replace b1 : Blk w1 _ _ _ := (by with_reducible first | exact Blk.keep hb b1 | exact Blk.keep hb b1.drew)
    replace l0 := b0.lt
    replace l1 := b1.lt
    replace c0 := b0.cell
    replace c1 := b1.cell
    replace f0 := b0.frozen
    replace f1 := b1.frozen
    clear hb
    go_wp2
    exact bodyPost_ret (v := vec (evF p0 p3 p6 p9 i j n) (evF p1 p4 p7 p10 i j n) (evF p2 p5 p8 p11 i j n)) (by simp [results, Try.results14, go_sem, c1, HE.out]) rfl ⟨rfl, (((hB.setCell (by dsimp only; omega) _).setCell (by dsimp only; omega) _).setCell (by dsimp only; omega) _)⟩
  · cases h2 : inB i 0 n
    · have HE := Lib.hid (evF_no2 (j := j) h1 h2)
      go_wp2_with (go_at_call 22; refine (within_any _ _ _ _).mono ?_; rintro r w' ⟨rfl, rfl⟩)
      refine (clamped_any _ _ _ _).mono ?_
      rintro e w1 ⟨rfl, hb⟩
      have hB := (by with_reducible first | exact b_keep hb hB | exact b_keep hb hB.drew)
      replace b0 : Blk w1 _ _ _ := (by with_reducible first | exact Blk.keep hb b0 | exact Blk.keep hb b0.drew)
      replace b1 : Blk w1 _ _ _ := (by with_reducible first | exact Blk.keep hb b1 | exact Blk.keep hb b1.drew)
      replace l0 := b0.lt
      replace l1 := b1.lt
      replace c0 := b0.cell
      replace c1 := b1.cell
      replace f0 := b0.frozen
      replace f1 := b1.frozen
      clear hb
      go_wp2
      exact bodyPost_ret (v := vec (evF p0 p3 p6 p9 i j n) (evF p1 p4 p7 p10 i j n) (evF p2 p5 p8 p11 i j n)) (by simp [results, Try.results14, go_sem, c1, HE.out]) rfl ⟨rfl, (((hB.setCell (by dsimp only; omega) _).setCell (by dsimp only; omega) _).setCell (by dsimp only; omega) _)⟩
    · cases h3 : inB j 0 n
      · have HE := Lib.hid (evF_no3 h1 h2 h3)
        go_wp2_with (go_at_call 22; refine (within_any _ _ _ _).mono ?_; rintro r w' ⟨rfl, rfl⟩)
        refine (clamped_any _ _ _ _).mono ?_
        rintro e w1 ⟨rfl, hb⟩
        have hB := (by with_reducible first | exact b_keep hb hB | exact b_keep hb hB.drew)
        replace b0 : Blk w1 _ _ _ := (by with_reducible first | exact Blk.keep hb b0 | exact Blk.keep hb b0.drew)
        replace b1 : Blk w1 _ _ _ := (by with_reducible first | exact Blk.keep hb b1 | exact Blk.keep hb b1.drew)
        replace l0 := b0.lt
        replace l1 := b1.lt
        replace c0 := b0.cell
        replace c1 := b1.cell
        replace f0 := b0.frozen
        replace f1 := b1.frozen
        clear hb
        go_wp2
        exact bodyPost_ret (v := vec (evF p0 p3 p6 p9 i j n) (evF p1 p4 p7 p10 i j n) (evF p2 p5 p8 p11 i j n)) (by simp [results, Try.results14, go_sem, c1, HE.out]) rfl ⟨rfl, (((hB.setCell (by dsimp only; omega) _).setCell (by dsimp only; omega) _).setCell (by dsimp only; omega) _)⟩
      · have HE := Lib.hid (evF_yes h1 h2 h3)
        obtain ⟨n1, n2⟩ := inB_iff.1 h1
        obtain ⟨i1, i2⟩ := inB_iff.1 h2
        obtain ⟨j1, j2⟩ := inB_iff.1 h3
        have HQ := Lib.hid (evalPatch0 p0 p1 p2 p3 p4 p5 p6 p7 p8 p9 p10 p11 i j n n1 n2 i1 i2 j1 j2)
        clear n1 n2 i1 i2 j1 j2
        go_wp2_with (go_at_call 22; refine (within_any _ _ _ _).mono ?_; rintro r w' ⟨rfl, rfl⟩)
        with_reducible refine (HQ.out _).mono ?_
        rintro e w1 ⟨rfl, hb⟩
        have hB := (by with_reducible first | exact b_keep hb hB | exact b_keep hb hB.drew)
        replace b0 : Blk w1 _ _ _ := (by with_reducible first | exact Blk.keep hb b0 | exact Blk.keep hb b0.drew)
        replace b1 : Blk w1 _ _ _ := (by with_reducible first | exact Blk.keep hb b1 | exact Blk.keep hb b1.drew)
        replace l0 := b0.lt
        replace l1 := b1.lt
        replace c0 := b0.cell
        replace c1 := b1.cell
        replace f0 := b0.frozen
        replace f1 := b1.frozen
        clear hb
        go_wp2
        exact bodyPost_ret (v := vec (evF p0 p3 p6 p9 i j n) (evF p1 p4 p7 p10 i j n) (evF p2 p5 p8 p11 i j n)) (by simp [results, Try.results14, go_sem, c1, HE.out]) rfl ⟨rfl, (((hB.setCell (by dsimp only; omega) _).setCell (by dsimp only; omega) _).setCell (by dsimp only; omega) _)⟩
end Go.Proofs.Ytadjnmldgnaabaa
