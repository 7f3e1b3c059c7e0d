/- Cross, of the program and of the reference. -/
import Derived.Test.YtjlenblggngdcaaVec6
namespace Go.Proofs.Ytjlenblggngdcaa
open Go.RowKit

def crZ (a b c d : Int) : Int := cl (fdZ (cl a * cl b - cl c * cl d) 256)
theorem crZ_def (a b c d : Int) : crZ a b c d = cl (fdZ (cl a * cl b - cl c * cl d) 256) := rfl
set_option maxHeartbeats 4000000 in
theorem crossS (x y z x1 y1 z1 : Int) (w : World) :
    Calls Try.prog 36 #[.agg #[.int .i64 (x), .int .i64 (y), .int .i64 (z)], .agg #[.int .i64 (x1), .int .i64 (y1), .int .i64 (z1)]] w fun e w' => e = .returned (vec (crZ y z1 z y1) (crZ z x1 x z1) (crZ x y1 y x1)) ∧ Below w.heap.size w w' := by
  have hB := below3 w (.cells #[.int .i64 (x), .int .i64 (y), .int .i64 (z)] 24) (.cells #[.int .i64 (x1), .int .i64 (y1), .int .i64 (z1)] 24) (.cells #[.int .i64 (0), .int .i64 (0), .int .i64 (0)] 24)
  obtain ⟨b0, b1, b2⟩ := blk3 w #[.int .i64 (x), .int .i64 (y), .int .i64 (z)] #[.int .i64 (x1), .int .i64 (y1), .int .i64 (z1)] #[.int .i64 (0), .int .i64 (0), .int .i64 (0)] 24 24 24
  have p0 := cl_mul y z1
  have p1 := cl_mul z y1
  have p2 := cl_mul z x1
  have p3 := cl_mul x z1
  have p4 := cl_mul x y1
  have p5 := cl_mul y x1
  have e0 := Lib.hid (show IntKind.i64.wrap (cl y * cl z1) = cl y * cl z1 from wrapB (by omega) (by omega))
  have e1 := Lib.hid (show IntKind.i64.wrap (cl z * cl y1) = cl z * cl y1 from wrapB (by omega) (by omega))
  have e2 := Lib.hid (show IntKind.i64.wrap (cl z * cl x1) = cl z * cl x1 from wrapB (by omega) (by omega))
  have e3 := Lib.hid (show IntKind.i64.wrap (cl x * cl z1) = cl x * cl z1 from wrapB (by omega) (by omega))
  have e4 := Lib.hid (show IntKind.i64.wrap (cl x * cl y1) = cl x * cl y1 from wrapB (by omega) (by omega))
  have e5 := Lib.hid (show IntKind.i64.wrap (cl y * cl x1) = cl y * cl x1 from wrapB (by omega) (by omega))
  have s0 := Lib.hid (show IntKind.i64.wrap (cl y * cl z1 - cl z * cl y1) = cl y * cl z1 - cl z * cl y1 from wrapB (by omega) (by omega))
  have s1 := Lib.hid (show IntKind.i64.wrap (cl z * cl x1 - cl x * cl z1) = cl z * cl x1 - cl x * cl z1 from wrapB (by omega) (by omega))
  have s2 := Lib.hid (show IntKind.i64.wrap (cl x * cl y1 - cl y * cl x1) = cl x * cl y1 - cl y * cl x1 from wrapB (by omega) (by omega))
  have H0 := Lib.hid (floorS (cl y * cl z1 - cl z * cl y1) 256 (by omega) (by omega))
  have H1 := Lib.hid (floorS (cl z * cl x1 - cl x * cl z1) 256 (by omega) (by omega))
  have H2 := Lib.hid (floorS (cl x * cl y1 - cl y * cl x1) 256 (by omega) (by omega))
  clear p0 p1 p2 p3 p4 p5
  have HE := Lib.hid crZ_def
  go_enter Try.func36, Try.ntmps36
  go_wp2_with fail
  generalize (((w.alloc (.cells #[.int .i64 (x), .int .i64 (y), .int .i64 (z)] 24)).alloc (.cells #[.int .i64 (x1), .int .i64 (y1), .int .i64 (z1)] 24)).alloc (.cells #[.int .i64 (0), .int .i64 (0), .int .i64 (0)] 24)) = W0 at hB b0 b1 b2 ⊢
  have c0 := b0.cell
  have f0 := b0.frozen
  have l0 := b0.lt
  have c1 := b1.cell
  have f1 := b1.frozen
  have l1 := b1.lt
  have c2 := b2.cell
  have f2 := b2.frozen
  have l2 := b2.lt
  refine (l02V_any _ _ _ _).mono ?_
  rintro e w1 ⟨rfl, hb⟩
  have hB := (by with_reducible first | exact b_keep hb hB | exact b_keep hb hB.drew)
  replace b0 : Blk w1 _ _ _ := (by with_reducible first | exact Blk.keep hb b0 | exact Blk.keep hb b0.drew)
  replace b1 : Blk w1 _ _ _ := (by with_reducible first | exact Blk.keep hb b1 | exact Blk.keep hb b1.drew)
  replace b2 : Blk w1 _ _ _ := (by with_reducible first | exact Blk.keep hb b2 | exact Blk.keep hb b2.drew)
  replace l0 := b0.lt
  replace l1 := b1.lt
  replace l2 := b2.lt
  replace c0 := b0.cell
  replace c1 := b1.cell
  replace c2 := b2.cell
  replace f0 := b0.frozen
  replace f1 := b1.frozen
  replace f2 := b2.frozen
  clear hb
  go_wp2_with fail
  have d3_0 := b0.lt
  have d3_1 := b1.lt
  have d3_2 := b2.lt
  have g3 := hB.size
  replace b0 := b0.alloc (.cells #[.int .i64 (cl x), .int .i64 (cl y), .int .i64 (cl z)] 24)
  replace b1 := b1.alloc (.cells #[.int .i64 (cl x), .int .i64 (cl y), .int .i64 (cl z)] 24)
  replace b2 := b2.alloc (.cells #[.int .i64 (cl x), .int .i64 (cl y), .int .i64 (cl z)] 24)
  have b3 := Blk.new w1 24 #[.int .i64 (cl x), .int .i64 (cl y), .int .i64 (cl z)]
  replace hB := hB.alloc hB.size (.cells #[.int .i64 (cl x), .int .i64 (cl y), .int .i64 (cl z)] 24)
  clear c0 f0 l0 c1 f1 l1 c2 f2 l2
  generalize w1.heap.size = q3 at b3 g3 d3_0 d3_1 d3_2 ⊢
  generalize w1.alloc (.cells #[.int .i64 (cl x), .int .i64 (cl y), .int .i64 (cl z)] 24) = W3 at hB b0 b1 b2 b3 ⊢
  have c0 := b0.cell
  have f0 := b0.frozen
  have l0 := b0.lt
  have c1 := b1.cell
  have f1 := b1.frozen
  have l1 := b1.lt
  have c2 := b2.cell
  have f2 := b2.frozen
  have l2 := b2.lt
  have c3 := b3.cell
  have f3 := b3.frozen
  have l3 := b3.lt
  refine (l02V_any _ _ _ _).mono ?_
  rintro e w1 ⟨rfl, hb⟩
  have hB := (by with_reducible first | exact b_keep hb hB | exact b_keep hb hB.drew)
  replace b0 : Blk w1 _ _ _ := (by with_reducible first | exact Blk.keep hb b0 | exact Blk.keep hb b0.drew)
  replace b1 : Blk w1 _ _ _ := (by with_reducible first | exact Blk.keep hb b1 | exact Blk.keep hb b1.drew)
  replace b2 : Blk w1 _ _ _ := (by with_reducible first | exact Blk.keep hb b2 | exact Blk.keep hb b2.drew)
  replace b3 : Blk w1 _ _ _ := (by with_reducible first | exact Blk.keep hb b3 | exact Blk.keep hb b3.drew)
  replace l0 := b0.lt
  replace l1 := b1.lt
  replace l2 := b2.lt
  replace l3 := b3.lt
  replace c0 := b0.cell
  replace c1 := b1.cell
  replace c2 := b2.cell
  replace c3 := b3.cell
  replace f0 := b0.frozen
  replace f1 := b1.frozen
  replace f2 := b2.frozen
  replace f3 := b3.frozen
  clear hb
  go_wp2_with fail
  have d4_0 := b0.lt
  have d4_1 := b1.lt
  have d4_2 := b2.lt
  have d4_3 := b3.lt
  have g4 := hB.size
  replace b0 := b0.alloc (.cells #[.int .i64 (cl x1), .int .i64 (cl y1), .int .i64 (cl z1)] 24)
  replace b1 := b1.alloc (.cells #[.int .i64 (cl x1), .int .i64 (cl y1), .int .i64 (cl z1)] 24)
  replace b2 := b2.alloc (.cells #[.int .i64 (cl x1), .int .i64 (cl y1), .int .i64 (cl z1)] 24)
  replace b3 := b3.alloc (.cells #[.int .i64 (cl x1), .int .i64 (cl y1), .int .i64 (cl z1)] 24)
  have b4 := Blk.new w1 24 #[.int .i64 (cl x1), .int .i64 (cl y1), .int .i64 (cl z1)]
  replace hB := hB.alloc hB.size (.cells #[.int .i64 (cl x1), .int .i64 (cl y1), .int .i64 (cl z1)] 24)
  clear c0 f0 l0 c1 f1 l1 c2 f2 l2 c3 f3 l3
  generalize w1.heap.size = q4 at b4 g4 d4_0 d4_1 d4_2 d4_3 ⊢
  generalize w1.alloc (.cells #[.int .i64 (cl x1), .int .i64 (cl y1), .int .i64 (cl z1)] 24) = W4 at hB b0 b1 b2 b3 b4 ⊢
  have c0 := b0.cell
  have f0 := b0.frozen
  have l0 := b0.lt
  have c1 := b1.cell
  have f1 := b1.frozen
  have l1 := b1.lt
  have c2 := b2.cell
  have f2 := b2.frozen
  have l2 := b2.lt
  have c3 := b3.cell
  have f3 := b3.frozen
  have l3 := b3.lt
  have c4 := b4.cell
  have f4 := b4.frozen
  have l4 := b4.lt
  replace e0 := e0.out
  replace e1 := e1.out
  replace e2 := e2.out
  replace e3 := e3.out
  replace e4 := e4.out
  replace e5 := e5.out
  replace s0 := s0.out
  replace s1 := s1.out
  replace s2 := s2.out
  go_region_held3 (fun w' => (∀ i, w'.cell? ⟨q3, i, none⟩ = (#[.int .i64 (cl x), .int .i64 (cl y), .int .i64 (cl z)] : Array Value)[i]?) ∧ (∀ i, w'.cell? ⟨q4, i, none⟩ = (#[.int .i64 (cl x1), .int .i64 (cl y1), .int .i64 (cl z1)] : Array Value)[i]?)) (first | with_reducible exact ⟨b3.cell, b4.cell⟩ | with_reducible exact ⟨b3.drew.cell, b4.drew.cell⟩ | with_reducible exact ⟨(b3.alloc _).cell, (b4.alloc _).cell⟩ | with_reducible exact ⟨(b3.alloc _).drew.cell, (b4.alloc _).drew.cell⟩ | exact ⟨(b3.far3 (by omega) _ _ _).cell, (b4.far3 (by omega) _ _ _).cell⟩ | exact ⟨(b3.far3 (by omega) _ _ _).drew.cell, (b4.far3 (by omega) _ _ _).drew.cell⟩ | go_keep)
    (first
      | (go_at_call 68; (first | (with_reducible refine (H0.out _).mono ?_) | (with_reducible refine (H1.out _).mono ?_) | (with_reducible refine (H2.out _).mono ?_)); rintro e w' ⟨rfl, rfl⟩)
      | (go_at_call 48; refine (l02V_any _ _ _ _).mono ?_; rintro e w1 ⟨rfl, hb⟩; have hB := (by with_reducible first | exact b_keep hb hB | exact b_keep hb hB.drew); replace b0 : Blk w1 _ _ _ := (by with_reducible first | exact Blk.keep hb b0 | exact Blk.keep hb b0.drew); replace b1 : Blk w1 _ _ _ := (by with_reducible first | exact Blk.keep hb b1 | exact Blk.keep hb b1.drew); replace b2 : Blk w1 _ _ _ := (by with_reducible first | exact Blk.keep hb b2 | exact Blk.keep hb b2.drew); replace b3 : Blk w1 _ _ _ := (by with_reducible first | exact Blk.keep hb b3 | exact Blk.keep hb b3.drew); replace b4 : Blk w1 _ _ _ := (by with_reducible first | exact Blk.keep hb b4 | exact Blk.keep hb b4.drew); replace l0 := b0.lt; replace l1 := b1.lt; replace l2 := b2.lt; replace l3 := b3.lt; replace l4 := b4.lt; replace c0 := b0.cell; replace c1 := b1.cell; replace c2 := b2.cell; replace c3 := b3.cell; replace c4 := b4.cell; replace f0 := b0.frozen; replace f1 := b1.frozen; replace f2 := b2.frozen; replace f3 := b3.frozen; replace f4 := b4.frozen))
  clear e0 e1 e2 e3 e4 e5 s0 s1 s2
  go_wp2
  exact bodyPost_ret (v := vec (crZ y z1 z y1) (crZ z x1 x z1) (crZ x y1 y x1)) (by simp [results, Try.results36, go_sem, c2, HE.out]) rfl ⟨rfl, ((hB.setCell (by dsimp only; omega) _).setCell (by dsimp only; omega) _).setCell (by dsimp only; omega) _⟩
set_option maxHeartbeats 4000000 in
theorem crossI (x y z x1 y1 z1 : Int) (w : World) :
    Calls Try.prog 37 #[.agg #[.int .i64 (x), .int .i64 (y), .int .i64 (z)], .agg #[.int .i64 (x1), .int .i64 (y1), .int .i64 (z1)]] w fun e w' => e = .returned (vec (crZ y z1 z y1) (crZ z x1 x z1) (crZ x y1 y x1)) ∧ Below w.heap.size w w' := by
  have hB := below3 w (.cells #[.int .i64 (x), .int .i64 (y), .int .i64 (z)] 24) (.cells #[.int .i64 (x1), .int .i64 (y1), .int .i64 (z1)] 24) (.cells #[.int .i64 (0), .int .i64 (0), .int .i64 (0)] 24)
  obtain ⟨b0, b1, b2⟩ := blk3 w #[.int .i64 (x), .int .i64 (y), .int .i64 (z)] #[.int .i64 (x1), .int .i64 (y1), .int .i64 (z1)] #[.int .i64 (0), .int .i64 (0), .int .i64 (0)] 24 24 24
  go_enter Try.func37, Try.ntmps37
  go_upto_region 1 with fail
  generalize (((w.alloc (.cells #[.int .i64 (x), .int .i64 (y), .int .i64 (z)] 24)).alloc (.cells #[.int .i64 (x1), .int .i64 (y1), .int .i64 (z1)] 24)).alloc (.cells #[.int .i64 (0), .int .i64 (0), .int .i64 (0)] 24)) = W0 at hB b0 b1 b2 ⊢
  have hB0 := hB
  have c0 := b0.cell
  have f0 := b0.frozen
  have l0 := b0.lt
  have c1 := b1.cell
  have f1 := b1.frozen
  have l1 := b1.lt
  have c2 := b2.cell
  have f2 := b2.frozen
  have l2 := b2.lt
  go_cut [] (fun wx => Blk wx w.heap.size 24 #[.int .i64 (cl x), .int .i64 (cl y), .int .i64 (cl z)] ∧ Blk wx (w.heap.size + 1) 24 #[.int .i64 (cl x1), .int .i64 (cl y1), .int .i64 (cl z1)] ∧ Blk wx (w.heap.size + 1 + 1) 24 #[.int .i64 (0), .int .i64 (0), .int .i64 (0)] ∧ Below w.heap.size w wx)
  case first =>
    go_region_with (first | (go_at_call 49; refine (clamped_any _ _ _ _).mono ?_; rintro e w1 ⟨rfl, hb⟩; have hB := (by with_reducible first | exact b_keep hb hB | exact b_keep hb hB.drew); replace b0 : Blk w1 _ _ _ := (by with_reducible first | exact Blk.keep hb b0 | exact Blk.keep hb b0.drew); replace b1 : Blk w1 _ _ _ := (by with_reducible first | exact Blk.keep hb b1 | exact Blk.keep hb b1.drew); replace b2 : Blk w1 _ _ _ := (by with_reducible first | exact Blk.keep hb b2 | exact Blk.keep hb b2.drew); replace l0 := b0.lt; replace l1 := b1.lt; replace l2 := b2.lt; replace c0 := b0.cell; replace c1 := b1.cell; replace c2 := b2.cell; replace f0 := b0.frozen; replace f1 := b1.frozen; replace f2 := b2.frozen))
    all_goals
      go_wp2_with fail
      go_meet
      first
        | exact ⟨(b0.set3 _ _ _).far3 (by omega) _ _ _, (b1.far3 (by omega) _ _ _).set3 _ _ _, (b2.far3 (by omega) _ _ _).far3 (by omega) _ _ _, below_set3 (below_set3 hB (by omega) _ _ _) (by omega) _ _ _⟩
        | exact ⟨(b0.far3 (by omega) _ _ _).set3 _ _ _, (b1.set3 _ _ _).far3 (by omega) _ _ _, (b2.far3 (by omega) _ _ _).far3 (by omega) _ _ _, below_set3 (below_set3 hB (by omega) _ _ _) (by omega) _ _ _⟩
  case rest =>
    obtain ⟨b0, b1, b2, hB⟩ := hcut
    clear hB0
    have c0 := b0.cell
    have f0 := b0.frozen
    have l0 := b0.lt
    have c1 := b1.cell
    have f1 := b1.frozen
    have l1 := b1.lt
    have c2 := b2.cell
    have f2 := b2.frozen
    have l2 := b2.lt
    have p0 := cl_mul y z1
    have p1 := cl_mul z y1
    have p2 := cl_mul z x1
    have p3 := cl_mul x z1
    have p4 := cl_mul x y1
    have p5 := cl_mul y x1
    have e0 := Lib.hid (show IntKind.i64.wrap (cl y * cl z1) = cl y * cl z1 from wrapB (by omega) (by omega))
    have e1 := Lib.hid (show IntKind.i64.wrap (cl z * cl y1) = cl z * cl y1 from wrapB (by omega) (by omega))
    have e2 := Lib.hid (show IntKind.i64.wrap (cl z * cl x1) = cl z * cl x1 from wrapB (by omega) (by omega))
    have e3 := Lib.hid (show IntKind.i64.wrap (cl x * cl z1) = cl x * cl z1 from wrapB (by omega) (by omega))
    have e4 := Lib.hid (show IntKind.i64.wrap (cl x * cl y1) = cl x * cl y1 from wrapB (by omega) (by omega))
    have e5 := Lib.hid (show IntKind.i64.wrap (cl y * cl x1) = cl y * cl x1 from wrapB (by omega) (by omega))
    have s0 := Lib.hid (show IntKind.i64.wrap (cl y * cl z1 - cl z * cl y1) = cl y * cl z1 - cl z * cl y1 from wrapB (by omega) (by omega))
    have s1 := Lib.hid (show IntKind.i64.wrap (cl z * cl x1 - cl x * cl z1) = cl z * cl x1 - cl x * cl z1 from wrapB (by omega) (by omega))
    have s2 := Lib.hid (show IntKind.i64.wrap (cl x * cl y1 - cl y * cl x1) = cl x * cl y1 - cl y * cl x1 from wrapB (by omega) (by omega))
    have HV := Lib.hid (over_any (cl y * cl z1 - cl z * cl y1) (cl z * cl x1 - cl x * cl z1) (cl x * cl y1 - cl y * cl x1) 256 (by omega) (by omega) (by omega) (by omega) (by omega) (by omega))
    clear p0 p1 p2 p3 p4 p5
    have HE := Lib.hid crZ_def
    replace e0 := e0.out
    replace e1 := e1.out
    replace e2 := e2.out
    replace e3 := e3.out
    replace e4 := e4.out
    replace e5 := e5.out
    replace s0 := s0.out
    replace s1 := s1.out
    replace s2 := s2.out
    go_wp2_with fail
    refine (HV.out _).mono ?_
    rintro e w1 ⟨rfl, hb⟩
    have hB := (by with_reducible first | exact b_keep hb hB | exact b_keep hb hB.drew)
    replace b0 : Blk w1 _ _ _ := (by with_reducible first | exact Blk.keep hb b0 | exact Blk.keep hb b0.drew)
    replace b1 : Blk w1 _ _ _ := (by with_reducible first | exact Blk.keep hb b1 | exact Blk.keep hb b1.drew)
    replace b2 : Blk w1 _ _ _ := (by with_reducible first | exact Blk.keep hb b2 | exact Blk.keep hb b2.drew)
    replace l0 := b0.lt
    replace l1 := b1.lt
    replace l2 := b2.lt
    replace c0 := b0.cell
    replace c1 := b1.cell
    replace c2 := b2.cell
    replace f0 := b0.frozen
    replace f1 := b1.frozen
    replace f2 := b2.frozen
    clear hb
    go_wp2_with fail
    refine (clamped_any _ _ _ _).mono ?_
    rintro e w1 ⟨rfl, hb⟩
    have hB := (by with_reducible first | exact b_keep hb hB | exact b_keep hb hB.drew)
    replace b0 : Blk w1 _ _ _ := (by with_reducible first | exact Blk.keep hb b0 | exact Blk.keep hb b0.drew)
    replace b1 : Blk w1 _ _ _ := (by with_reducible first | exact Blk.keep hb b1 | exact Blk.keep hb b1.drew)
    replace b2 : Blk w1 _ _ _ := (by with_reducible first | exact Blk.keep hb b2 | exact Blk.keep hb b2.drew)
    replace l0 := b0.lt
    replace l1 := b1.lt
    replace l2 := b2.lt
    replace c0 := b0.cell
    replace c1 := b1.cell
    replace c2 := b2.cell
    replace f0 := b0.frozen
    replace f1 := b1.frozen
    replace f2 := b2.frozen
    clear hb
    clear e0 e1 e2 e3 e4 e5 s0 s1 s2
    go_wp2
    exact bodyPost_ret (v := vec (crZ y z1 z y1) (crZ z x1 x z1) (crZ x y1 y x1)) (by simp [results, Try.results37, go_sem, c2, HE.out]) rfl ⟨rfl, ((hB.setCell (by dsimp only; omega) _).setCell (by dsimp only; omega) _).setCell (by dsimp only; omega) _⟩
end Go.Proofs.Ytjlenblggngdcaa
