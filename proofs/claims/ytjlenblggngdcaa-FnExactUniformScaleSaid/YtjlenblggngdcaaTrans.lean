/- UniformScale and Translation, of the program and of the reference. -/
import Derived.Test.YtjlenblggngdcaaIdent4
import Derived.Test.YtjlenblggngdcaaVec3
namespace Go.Proofs.Ytjlenblggngdcaa
open Go.RowKit

/-- The diagonal of UniformScale's matrix. -/
def usD (i : Int) : Int := if inB i (-64) 64 then i else 16
theorem usD_no {i : Int} (h : inB i (-64) 64 = false) : usD i = 16 := by unfold usD; rw [h]; rfl
theorem usD_yes {i : Int} (h : inB i (-64) 64 = true) : usD i = i := by unfold usD; rw [h]; rfl
/-- A component of Translation's offset. -/
def trZ (x y z a : Int) : Int := if vb x y z then a else 0
theorem trZ_no {x y z : Int} (h : vb x y z = false) (a : Int) : trZ x y z a = 0 := by unfold trZ; rw [h]; rfl
theorem trZ_yes {x y z : Int} (h : vb x y z = true) (a : Int) : trZ x y z a = a := by unfold trZ; rw [h]; rfl

set_option maxHeartbeats 4000000 in
theorem uniformI (i : Int) (w : World) :
    Calls Try.prog 20 #[.int .i64 i] w fun e w' => e = .returned (.agg #[.int .i64 (usD i), .int .i64 (0), .int .i64 (0), .int .i64 (0), .int .i64 (usD i), .int .i64 (0), .int .i64 (0), .int .i64 (0), .int .i64 (usD i), .int .i64 (0), .int .i64 (0), .int .i64 (0)]) ∧ Below w.heap.size w w' := by
  have hB := below1 w (.cells #[.int .i64 (0), .int .i64 (0), .int .i64 (0), .int .i64 (0), .int .i64 (0), .int .i64 (0), .int .i64 (0), .int .i64 (0), .int .i64 (0), .int .i64 (0), .int .i64 (0), .int .i64 (0)] 31)
  have b0 := Blk.new w 31 #[.int .i64 (0), .int .i64 (0), .int .i64 (0), .int .i64 (0), .int .i64 (0), .int .i64 (0), .int .i64 (0), .int .i64 (0), .int .i64 (0), .int .i64 (0), .int .i64 (0), .int .i64 (0)]
  go_enter Try.func20, Try.ntmps20
  go_wp2_with fail
  generalize w.alloc (.cells #[.int .i64 (0), .int .i64 (0), .int .i64 (0), .int .i64 (0), .int .i64 (0), .int .i64 (0), .int .i64 (0), .int .i64 (0), .int .i64 (0), .int .i64 (0), .int .i64 (0), .int .i64 (0)] 31) = W0 at hB b0 ⊢
  have c0 := b0.cell
  have f0 := b0.frozen
  have l0 := b0.lt
  refine (within_any _ _ _ _).mono ?_
  rintro e w2 ⟨rfl, rfl⟩
  cases h1 : inB i (-64) 64
  · have E := usD_no h1
    have HE := Lib.hid E
    clear E
    go_wp2_with fail
    refine (identityI _).mono ?_
    rintro e w1 ⟨rfl, hb⟩
    have hB := (by with_reducible first | exact b_keep hb hB | exact b_keep hb hB.drew)
    replace b0 : Blk w1 _ _ _ := (by with_reducible first | exact Blk.keep hb b0 | exact Blk.keep hb b0.drew)
    replace l0 := b0.lt
    replace c0 := b0.cell
    replace f0 := b0.frozen
    clear hb
    go_wp2
    exact bodyPost_ret (v := .agg #[.int .i64 (usD i), .int .i64 (0), .int .i64 (0), .int .i64 (0), .int .i64 (usD i), .int .i64 (0), .int .i64 (0), .int .i64 (0), .int .i64 (usD i), .int .i64 (0), .int .i64 (0), .int .i64 (0)]) (by simp [results, Try.results20, go_sem, c0, HE.out]) rfl ⟨rfl, ((((((((((((hB.setCell (by dsimp only; omega) _).setCell (by dsimp only; omega) _).setCell (by dsimp only; omega) _).setCell (by dsimp only; omega) _).setCell (by dsimp only; omega) _).setCell (by dsimp only; omega) _).setCell (by dsimp only; omega) _).setCell (by dsimp only; omega) _).setCell (by dsimp only; omega) _).setCell (by dsimp only; omega) _).setCell (by dsimp only; omega) _).setCell (by dsimp only; omega) _)⟩
  · have E := usD_yes h1
    have HE := Lib.hid E
    clear E
    go_wp2
    exact bodyPost_ret (v := .agg #[.int .i64 (usD i), .int .i64 (0), .int .i64 (0), .int .i64 (0), .int .i64 (usD i), .int .i64 (0), .int .i64 (0), .int .i64 (0), .int .i64 (usD i), .int .i64 (0), .int .i64 (0), .int .i64 (0)]) (by simp [results, Try.results20, go_sem, c0, HE.out]) rfl ⟨rfl, ((((((((((((hB.setCell (by dsimp only; omega) _).setCell (by dsimp only; omega) _).setCell (by dsimp only; omega) _).setCell (by dsimp only; omega) _).setCell (by dsimp only; omega) _).setCell (by dsimp only; omega) _).setCell (by dsimp only; omega) _).setCell (by dsimp only; omega) _).setCell (by dsimp only; omega) _).setCell (by dsimp only; omega) _).setCell (by dsimp only; omega) _).setCell (by dsimp only; omega) _)⟩
set_option maxHeartbeats 4000000 in
theorem uniformS (i : Int) (w : World) :
    Calls Try.prog 19 #[.int .i64 i] w fun e w' => e = .returned (.agg #[.int .i64 (usD i), .int .i64 (0), .int .i64 (0), .int .i64 (0), .int .i64 (usD i), .int .i64 (0), .int .i64 (0), .int .i64 (0), .int .i64 (usD i), .int .i64 (0), .int .i64 (0), .int .i64 (0)]) ∧ Below w.heap.size w w' := by
  have hB := below1 w (.cells #[.int .i64 (0), .int .i64 (0), .int .i64 (0), .int .i64 (0), .int .i64 (0), .int .i64 (0), .int .i64 (0), .int .i64 (0), .int .i64 (0), .int .i64 (0), .int .i64 (0), .int .i64 (0)] 31)
  have b0 := Blk.new w 31 #[.int .i64 (0), .int .i64 (0), .int .i64 (0), .int .i64 (0), .int .i64 (0), .int .i64 (0), .int .i64 (0), .int .i64 (0), .int .i64 (0), .int .i64 (0), .int .i64 (0), .int .i64 (0)]
  go_enter Try.func19, Try.ntmps19
  go_wp2_with fail
  generalize w.alloc (.cells #[.int .i64 (0), .int .i64 (0), .int .i64 (0), .int .i64 (0), .int .i64 (0), .int .i64 (0), .int .i64 (0), .int .i64 (0), .int .i64 (0), .int .i64 (0), .int .i64 (0), .int .i64 (0)] 31) = W0 at hB b0 ⊢
  have c0 := b0.cell
  have f0 := b0.frozen
  have l0 := b0.lt
  refine (identityS _).mono ?_
  rintro e w1 ⟨rfl, hb⟩
  have hB := (by with_reducible first | exact b_keep hb hB | exact b_keep hb hB.drew)
  replace b0 : Blk w1 _ _ _ := (by with_reducible first | exact Blk.keep hb b0 | exact Blk.keep hb b0.drew)
  replace l0 := b0.lt
  replace c0 := b0.cell
  replace f0 := b0.frozen
  clear hb
  go_wp2_with fail
  have d1_0 := b0.lt
  have g1 := hB.size
  replace b0 := b0.alloc (.cells #[.int .i64 (16), .int .i64 (0), .int .i64 (0), .int .i64 (0), .int .i64 (16), .int .i64 (0), .int .i64 (0), .int .i64 (0), .int .i64 (16), .int .i64 (0), .int .i64 (0), .int .i64 (0)] 31)
  have b1 := Blk.new w1 31 #[.int .i64 (16), .int .i64 (0), .int .i64 (0), .int .i64 (0), .int .i64 (16), .int .i64 (0), .int .i64 (0), .int .i64 (0), .int .i64 (16), .int .i64 (0), .int .i64 (0), .int .i64 (0)]
  replace hB := hB.alloc hB.size (.cells #[.int .i64 (16), .int .i64 (0), .int .i64 (0), .int .i64 (0), .int .i64 (16), .int .i64 (0), .int .i64 (0), .int .i64 (0), .int .i64 (16), .int .i64 (0), .int .i64 (0), .int .i64 (0)] 31)
  clear c0 f0 l0
  generalize w1.heap.size = q1 at b1 g1 d1_0 ⊢
  generalize w1.alloc (.cells #[.int .i64 (16), .int .i64 (0), .int .i64 (0), .int .i64 (0), .int .i64 (16), .int .i64 (0), .int .i64 (0), .int .i64 (0), .int .i64 (16), .int .i64 (0), .int .i64 (0), .int .i64 (0)] 31) = W1 at hB b0 b1 ⊢
  have c0 := b0.cell
  have f0 := b0.frozen
  have l0 := b0.lt
  have c1 := b1.cell
  have f1 := b1.frozen
  have l1 := b1.lt
  refine (l01In_any _ _ _ _).mono ?_
  rintro e w2 ⟨rfl, rfl⟩
  cases h1 : inB i (-64) 64
  · have E := usD_no h1
    have HE := Lib.hid E
    clear E
    go_wp2
    exact bodyPost_ret (v := .agg #[.int .i64 (usD i), .int .i64 (0), .int .i64 (0), .int .i64 (0), .int .i64 (usD i), .int .i64 (0), .int .i64 (0), .int .i64 (0), .int .i64 (usD i), .int .i64 (0), .int .i64 (0), .int .i64 (0)]) (by simp [results, Try.results19, go_sem, c0, HE.out]) rfl ⟨rfl, ((((((((((((hB.setCell (by dsimp only; omega) _).setCell (by dsimp only; omega) _).setCell (by dsimp only; omega) _).setCell (by dsimp only; omega) _).setCell (by dsimp only; omega) _).setCell (by dsimp only; omega) _).setCell (by dsimp only; omega) _).setCell (by dsimp only; omega) _).setCell (by dsimp only; omega) _).setCell (by dsimp only; omega) _).setCell (by dsimp only; omega) _).setCell (by dsimp only; omega) _)⟩
  · have E := usD_yes h1
    have HE := Lib.hid E
    clear E
    have hq : w.heap.size ≠ q1 := by omega
    have hq' : q1 ≠ w.heap.size := by omega
    go_wp2
    exact bodyPost_ret (v := .agg #[.int .i64 (usD i), .int .i64 (0), .int .i64 (0), .int .i64 (0), .int .i64 (usD i), .int .i64 (0), .int .i64 (0), .int .i64 (0), .int .i64 (usD i), .int .i64 (0), .int .i64 (0), .int .i64 (0)]) (by simp [results, Try.results19, go_sem, c0, HE.out]) rfl ⟨rfl, (((((((((((((((((((((hB.setCell (by dsimp only; omega) _).setCell (by dsimp only; omega) _).setCell (by dsimp only; omega) _).setCell (by dsimp only; omega) _).setCell (by dsimp only; omega) _).setCell (by dsimp only; omega) _).setCell (by dsimp only; omega) _).setCell (by dsimp only; omega) _).setCell (by dsimp only; omega) _).setCell (by dsimp only; omega) _).setCell (by dsimp only; omega) _).setCell (by dsimp only; omega) _).setCell (by dsimp only; omega) _).setCell (by dsimp only; omega) _).setCell (by dsimp only; omega) _).setCell (by dsimp only; omega) _).setCell (by dsimp only; omega) _).setCell (by dsimp only; omega) _).setCell (by dsimp only; omega) _).setCell (by dsimp only; omega) _).setCell (by dsimp only; omega) _)⟩
set_option maxHeartbeats 4000000 in
theorem translI (x y z : Int) (w : World) :
    Calls Try.prog 43 #[.agg #[.int .i64 (x), .int .i64 (y), .int .i64 (z)]] w fun e w' => e = .returned (.agg #[.int .i64 (16), .int .i64 (0), .int .i64 (0), .int .i64 (0), .int .i64 (16), .int .i64 (0), .int .i64 (0), .int .i64 (0), .int .i64 (16), .int .i64 (trZ x y z x), .int .i64 (trZ x y z y), .int .i64 (trZ x y z z)]) ∧ Below w.heap.size w w' := by
  have hB := below2 w (.cells #[.int .i64 (x), .int .i64 (y), .int .i64 (z)] 24) (.cells #[.int .i64 (0), .int .i64 (0), .int .i64 (0), .int .i64 (0), .int .i64 (0), .int .i64 (0), .int .i64 (0), .int .i64 (0), .int .i64 (0), .int .i64 (0), .int .i64 (0), .int .i64 (0)] 31)
  obtain ⟨b0, b1⟩ := blk2 w #[.int .i64 (x), .int .i64 (y), .int .i64 (z)] #[.int .i64 (0), .int .i64 (0), .int .i64 (0), .int .i64 (0), .int .i64 (0), .int .i64 (0), .int .i64 (0), .int .i64 (0), .int .i64 (0), .int .i64 (0), .int .i64 (0), .int .i64 (0)] 24 31
  go_enter Try.func43, Try.ntmps43
  go_wp2_with fail
  generalize (w.alloc (.cells #[.int .i64 (x), .int .i64 (y), .int .i64 (z)] 24)).alloc (.cells #[.int .i64 (0), .int .i64 (0), .int .i64 (0), .int .i64 (0), .int .i64 (0), .int .i64 (0), .int .i64 (0), .int .i64 (0), .int .i64 (0), .int .i64 (0), .int .i64 (0), .int .i64 (0)] 31) = W0 at hB b0 b1 ⊢
  have c0 := b0.cell
  have f0 := b0.frozen
  have l0 := b0.lt
  have c1 := b1.cell
  have f1 := b1.frozen
  have l1 := b1.lt
  refine (identityI _).mono ?_
  rintro e w1 ⟨rfl, hb⟩
  have hB := (by with_reducible first | exact b_keep hb hB | exact b_keep hb hB.drew)
  replace b0 : Blk w1 _ _ _ := (by with_reducible first | exact Blk.keep hb b0 | exact Blk.keep hb b0.drew)
  replace b1 : Blk w1 _ _ _ := (by with_reducible first | exact Blk.keep hb b1 | exact Blk.keep hb b1.drew)
  replace l0 := b0.lt
  replace l1 := b1.lt
  replace c0 := b0.cell
  replace c1 := b1.cell
  replace f0 := b0.frozen
  replace f1 := b1.frozen
  clear hb
  go_wp2_with fail
  have d2_0 := b0.lt
  have d2_1 := b1.lt
  have g2 := hB.size
  replace b0 := b0.alloc (.cells #[.int .i64 (16), .int .i64 (0), .int .i64 (0), .int .i64 (0), .int .i64 (16), .int .i64 (0), .int .i64 (0), .int .i64 (0), .int .i64 (16), .int .i64 (0), .int .i64 (0), .int .i64 (0)] 31)
  replace b1 := b1.alloc (.cells #[.int .i64 (16), .int .i64 (0), .int .i64 (0), .int .i64 (0), .int .i64 (16), .int .i64 (0), .int .i64 (0), .int .i64 (0), .int .i64 (16), .int .i64 (0), .int .i64 (0), .int .i64 (0)] 31)
  have b2 := Blk.new w1 31 #[.int .i64 (16), .int .i64 (0), .int .i64 (0), .int .i64 (0), .int .i64 (16), .int .i64 (0), .int .i64 (0), .int .i64 (0), .int .i64 (16), .int .i64 (0), .int .i64 (0), .int .i64 (0)]
  replace hB := hB.alloc hB.size (.cells #[.int .i64 (16), .int .i64 (0), .int .i64 (0), .int .i64 (0), .int .i64 (16), .int .i64 (0), .int .i64 (0), .int .i64 (0), .int .i64 (16), .int .i64 (0), .int .i64 (0), .int .i64 (0)] 31)
  clear c0 f0 l0 c1 f1 l1
  generalize w1.heap.size = q2 at b2 g2 d2_0 d2_1 ⊢
  generalize w1.alloc (.cells #[.int .i64 (16), .int .i64 (0), .int .i64 (0), .int .i64 (0), .int .i64 (16), .int .i64 (0), .int .i64 (0), .int .i64 (0), .int .i64 (16), .int .i64 (0), .int .i64 (0), .int .i64 (0)] 31) = W2 at hB b0 b1 b2 ⊢
  have c0 := b0.cell
  have f0 := b0.frozen
  have l0 := b0.lt
  have c1 := b1.cell
  have f1 := b1.frozen
  have l1 := b1.lt
  have c2 := b2.cell
  have f2 := b2.frozen
  have l2 := b2.lt
  refine (isValidVecI _ _ _ _).mono ?_
  rintro e w1 ⟨rfl, hb⟩
  have hB := (by with_reducible first | exact b_keep hb hB | exact b_keep hb hB.drew)
  replace b0 : Blk w1 _ _ _ := (by with_reducible first | exact Blk.keep hb b0 | exact Blk.keep hb b0.drew)
  replace b1 : Blk w1 _ _ _ := (by with_reducible first | exact Blk.keep hb b1 | exact Blk.keep hb b1.drew)
  replace b2 : Blk w1 _ _ _ := (by with_reducible first | exact Blk.keep hb b2 | exact Blk.keep hb b2.drew)
  replace l0 := b0.lt
  replace l1 := b1.lt
  replace l2 := b2.lt
  replace c0 := b0.cell
  replace c1 := b1.cell
  replace c2 := b2.cell
  replace f0 := b0.frozen
  replace f1 := b1.frozen
  replace f2 := b2.frozen
  clear hb
  cases h1 : vb x y z
  · have E := trZ_no h1
    have HE := Lib.hid E
    clear E
    go_wp2
    exact bodyPost_ret (v := .agg #[.int .i64 (16), .int .i64 (0), .int .i64 (0), .int .i64 (0), .int .i64 (16), .int .i64 (0), .int .i64 (0), .int .i64 (0), .int .i64 (16), .int .i64 (trZ x y z x), .int .i64 (trZ x y z y), .int .i64 (trZ x y z z)]) (by simp [results, Try.results43, go_sem, c1, HE.out]) rfl ⟨rfl, ((((((((((((hB.setCell (by dsimp only; omega) _).setCell (by dsimp only; omega) _).setCell (by dsimp only; omega) _).setCell (by dsimp only; omega) _).setCell (by dsimp only; omega) _).setCell (by dsimp only; omega) _).setCell (by dsimp only; omega) _).setCell (by dsimp only; omega) _).setCell (by dsimp only; omega) _).setCell (by dsimp only; omega) _).setCell (by dsimp only; omega) _).setCell (by dsimp only; omega) _)⟩
  · have E := trZ_yes h1
    have HE := Lib.hid E
    clear E
    have hq : w.heap.size + 1 ≠ q2 := by omega
    have hq' : q2 ≠ w.heap.size + 1 := by omega
    go_wp2
    exact bodyPost_ret (v := .agg #[.int .i64 (16), .int .i64 (0), .int .i64 (0), .int .i64 (0), .int .i64 (16), .int .i64 (0), .int .i64 (0), .int .i64 (0), .int .i64 (16), .int .i64 (trZ x y z x), .int .i64 (trZ x y z y), .int .i64 (trZ x y z z)]) (by simp [results, Try.results43, go_sem, c1, HE.out]) rfl ⟨rfl, (((((((((((((((hB.setCell (by dsimp only; omega) _).setCell (by dsimp only; omega) _).setCell (by dsimp only; omega) _).setCell (by dsimp only; omega) _).setCell (by dsimp only; omega) _).setCell (by dsimp only; omega) _).setCell (by dsimp only; omega) _).setCell (by dsimp only; omega) _).setCell (by dsimp only; omega) _).setCell (by dsimp only; omega) _).setCell (by dsimp only; omega) _).setCell (by dsimp only; omega) _).setCell (by dsimp only; omega) _).setCell (by dsimp only; omega) _).setCell (by dsimp only; omega) _)⟩
set_option maxHeartbeats 4000000 in
theorem translS (x y z : Int) (w : World) :
    Calls Try.prog 42 #[.agg #[.int .i64 (x), .int .i64 (y), .int .i64 (z)]] w fun e w' => e = .returned (.agg #[.int .i64 (16), .int .i64 (0), .int .i64 (0), .int .i64 (0), .int .i64 (16), .int .i64 (0), .int .i64 (0), .int .i64 (0), .int .i64 (16), .int .i64 (trZ x y z x), .int .i64 (trZ x y z y), .int .i64 (trZ x y z z)]) ∧ Below w.heap.size w w' := by
  have hB := below2 w (.cells #[.int .i64 (x), .int .i64 (y), .int .i64 (z)] 24) (.cells #[.int .i64 (0), .int .i64 (0), .int .i64 (0), .int .i64 (0), .int .i64 (0), .int .i64 (0), .int .i64 (0), .int .i64 (0), .int .i64 (0), .int .i64 (0), .int .i64 (0), .int .i64 (0)] 31)
  obtain ⟨b0, b1⟩ := blk2 w #[.int .i64 (x), .int .i64 (y), .int .i64 (z)] #[.int .i64 (0), .int .i64 (0), .int .i64 (0), .int .i64 (0), .int .i64 (0), .int .i64 (0), .int .i64 (0), .int .i64 (0), .int .i64 (0), .int .i64 (0), .int .i64 (0), .int .i64 (0)] 24 31
  go_enter Try.func42, Try.ntmps42
  go_wp2_with fail
  generalize (w.alloc (.cells #[.int .i64 (x), .int .i64 (y), .int .i64 (z)] 24)).alloc (.cells #[.int .i64 (0), .int .i64 (0), .int .i64 (0), .int .i64 (0), .int .i64 (0), .int .i64 (0), .int .i64 (0), .int .i64 (0), .int .i64 (0), .int .i64 (0), .int .i64 (0), .int .i64 (0)] 31) = W0 at hB b0 b1 ⊢
  have c0 := b0.cell
  have f0 := b0.frozen
  have l0 := b0.lt
  have c1 := b1.cell
  have f1 := b1.frozen
  have l1 := b1.lt
  refine (identityS _).mono ?_
  rintro e w1 ⟨rfl, hb⟩
  have hB := (by with_reducible first | exact b_keep hb hB | exact b_keep hb hB.drew)
  replace b0 : Blk w1 _ _ _ := (by with_reducible first | exact Blk.keep hb b0 | exact Blk.keep hb b0.drew)
  replace b1 : Blk w1 _ _ _ := (by with_reducible first | exact Blk.keep hb b1 | exact Blk.keep hb b1.drew)
  replace l0 := b0.lt
  replace l1 := b1.lt
  replace c0 := b0.cell
  replace c1 := b1.cell
  replace f0 := b0.frozen
  replace f1 := b1.frozen
  clear hb
  go_wp2_with fail
  have d2_0 := b0.lt
  have d2_1 := b1.lt
  have g2 := hB.size
  replace b0 := b0.alloc (.cells #[.int .i64 (16), .int .i64 (0), .int .i64 (0), .int .i64 (0), .int .i64 (16), .int .i64 (0), .int .i64 (0), .int .i64 (0), .int .i64 (16), .int .i64 (0), .int .i64 (0), .int .i64 (0)] 31)
  replace b1 := b1.alloc (.cells #[.int .i64 (16), .int .i64 (0), .int .i64 (0), .int .i64 (0), .int .i64 (16), .int .i64 (0), .int .i64 (0), .int .i64 (0), .int .i64 (16), .int .i64 (0), .int .i64 (0), .int .i64 (0)] 31)
  have b2 := Blk.new w1 31 #[.int .i64 (16), .int .i64 (0), .int .i64 (0), .int .i64 (0), .int .i64 (16), .int .i64 (0), .int .i64 (0), .int .i64 (0), .int .i64 (16), .int .i64 (0), .int .i64 (0), .int .i64 (0)]
  replace hB := hB.alloc hB.size (.cells #[.int .i64 (16), .int .i64 (0), .int .i64 (0), .int .i64 (0), .int .i64 (16), .int .i64 (0), .int .i64 (0), .int .i64 (0), .int .i64 (16), .int .i64 (0), .int .i64 (0), .int .i64 (0)] 31)
  clear c0 f0 l0 c1 f1 l1
  generalize w1.heap.size = q2 at b2 g2 d2_0 d2_1 ⊢
  generalize w1.alloc (.cells #[.int .i64 (16), .int .i64 (0), .int .i64 (0), .int .i64 (0), .int .i64 (16), .int .i64 (0), .int .i64 (0), .int .i64 (0), .int .i64 (16), .int .i64 (0), .int .i64 (0), .int .i64 (0)] 31) = W2 at hB b0 b1 b2 ⊢
  have c0 := b0.cell
  have f0 := b0.frozen
  have l0 := b0.lt
  have c1 := b1.cell
  have f1 := b1.frozen
  have l1 := b1.lt
  have c2 := b2.cell
  have f2 := b2.frozen
  have l2 := b2.lt
  refine (isValidVecS _ _ _ _).mono ?_
  rintro e w1 ⟨rfl, hb⟩
  have hB := (by with_reducible first | exact b_keep hb hB | exact b_keep hb hB.drew)
  replace b0 : Blk w1 _ _ _ := (by with_reducible first | exact Blk.keep hb b0 | exact Blk.keep hb b0.drew)
  replace b1 : Blk w1 _ _ _ := (by with_reducible first | exact Blk.keep hb b1 | exact Blk.keep hb b1.drew)
  replace b2 : Blk w1 _ _ _ := (by with_reducible first | exact Blk.keep hb b2 | exact Blk.keep hb b2.drew)
  replace l0 := b0.lt
  replace l1 := b1.lt
  replace l2 := b2.lt
  replace c0 := b0.cell
  replace c1 := b1.cell
  replace c2 := b2.cell
  replace f0 := b0.frozen
  replace f1 := b1.frozen
  replace f2 := b2.frozen
  clear hb
  cases h1 : vb x y z
  · have E := trZ_no h1
    have HE := Lib.hid E
    clear E
    go_wp2
    exact bodyPost_ret (v := .agg #[.int .i64 (16), .int .i64 (0), .int .i64 (0), .int .i64 (0), .int .i64 (16), .int .i64 (0), .int .i64 (0), .int .i64 (0), .int .i64 (16), .int .i64 (trZ x y z x), .int .i64 (trZ x y z y), .int .i64 (trZ x y z z)]) (by simp [results, Try.results42, go_sem, c1, HE.out]) rfl ⟨rfl, ((((((((((((hB.setCell (by dsimp only; omega) _).setCell (by dsimp only; omega) _).setCell (by dsimp only; omega) _).setCell (by dsimp only; omega) _).setCell (by dsimp only; omega) _).setCell (by dsimp only; omega) _).setCell (by dsimp only; omega) _).setCell (by dsimp only; omega) _).setCell (by dsimp only; omega) _).setCell (by dsimp only; omega) _).setCell (by dsimp only; omega) _).setCell (by dsimp only; omega) _)⟩
  · have E := trZ_yes h1
    have HE := Lib.hid E
    clear E
    have hq : w.heap.size + 1 ≠ q2 := by omega
    have hq' : q2 ≠ w.heap.size + 1 := by omega
    go_wp2
    exact bodyPost_ret (v := .agg #[.int .i64 (16), .int .i64 (0), .int .i64 (0), .int .i64 (0), .int .i64 (16), .int .i64 (0), .int .i64 (0), .int .i64 (0), .int .i64 (16), .int .i64 (trZ x y z x), .int .i64 (trZ x y z y), .int .i64 (trZ x y z z)]) (by simp [results, Try.results42, go_sem, c1, HE.out]) rfl ⟨rfl, (((((((((((((((hB.setCell (by dsimp only; omega) _).setCell (by dsimp only; omega) _).setCell (by dsimp only; omega) _).setCell (by dsimp only; omega) _).setCell (by dsimp only; omega) _).setCell (by dsimp only; omega) _).setCell (by dsimp only; omega) _).setCell (by dsimp only; omega) _).setCell (by dsimp only; omega) _).setCell (by dsimp only; omega) _).setCell (by dsimp only; omega) _).setCell (by dsimp only; omega) _).setCell (by dsimp only; omega) _).setCell (by dsimp only; omega) _).setCell (by dsimp only; omega) _)⟩
end Go.Proofs.Ytjlenblggngdcaa
