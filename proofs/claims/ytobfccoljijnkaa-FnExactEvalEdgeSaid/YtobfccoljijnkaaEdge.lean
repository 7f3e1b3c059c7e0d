/- EvalEdge, of the program and of the reference. -/
import Derived.Test.YtobfccoljijnkaaLerp
namespace Go.Proofs.Ytobfccoljijnkaa
open Go.RowKit

def edZ (a b d e k i n : Int) : Int := if inB k 0 3 then (if k = 0 then leZ a b i n else if k = 1 then leZ d e i n else if k = 2 then leZ a d i n else leZ b e i n) else cl a
theorem edZ_no {k : Int} (h : inB k 0 3 = false) (a b d e i n : Int) : edZ a b d e k i n = cl a := by unfold edZ; rw [h]; rfl
theorem edZ_0 (a b d e i n : Int) : edZ a b d e 0 i n = leZ a b i n := rfl
theorem edZ_1 (a b d e i n : Int) : edZ a b d e 1 i n = leZ d e i n := rfl
theorem edZ_2 (a b d e i n : Int) : edZ a b d e 2 i n = leZ a d i n := rfl
theorem edZ_3 (a b d e i n : Int) : edZ a b d e 3 i n = leZ b e i n := rfl

theorem blk5 (W : World) (a b c d e : Array Value) (s t : TypeId) :
    let W1 := ((((W.alloc (.cells a t)).alloc (.cells b t)).alloc (.cells c t)).alloc (.cells d t)).alloc (.cells e s)
    (Blk W1 W.heap.size t a ∧ Blk W1 (W.heap.size + 1) t b ∧ Blk W1 (W.heap.size + 1 + 1) t c ∧ Blk W1 (W.heap.size + 1 + 1 + 1) t d ∧ Blk W1 (W.heap.size + 1 + 1 + 1 + 1) s e) ∧
    (∀ g u cs, Blk W g u cs → Blk W1 g u cs) ∧ (∀ B w, B ≤ W.heap.size → Below B w W → Below B w W1) := by
  intro W1
  have h0 := Blk.new W t a
  have h1 := Blk.new (W.alloc (.cells a t)) t b
  have h2 := Blk.new ((W.alloc (.cells a t)).alloc (.cells b t)) t c
  have h3 := Blk.new (((W.alloc (.cells a t)).alloc (.cells b t)).alloc (.cells c t)) t d
  have h4 := Blk.new ((((W.alloc (.cells a t)).alloc (.cells b t)).alloc (.cells c t)).alloc (.cells d t)) s e
  simp only [World.size_alloc] at h1 h2 h3 h4
  refine ⟨⟨(((h0.alloc _).alloc _).alloc _).alloc _, ((h1.alloc _).alloc _).alloc _, (h2.alloc _).alloc _, h3.alloc _, h4⟩, fun g u cs h => ((((h.alloc _).alloc _).alloc _).alloc _).alloc _, fun B w s0 h => ?_⟩
  exact ((((h.alloc s0 _).alloc (by simp only [World.size_alloc]; omega) _).alloc (by simp only [World.size_alloc]; omega) _).alloc (by simp only [World.size_alloc]; omega) _).alloc (by simp only [World.size_alloc]; omega) _

set_option maxHeartbeats 4000000 in
theorem edgeI (p0 p1 p2 p3 p4 p5 p6 p7 p8 p9 p10 p11 k i n : Int) (w : World) :
    Calls Try.prog 31 #[.agg #[.int .i64 (p0), .int .i64 (p1), .int .i64 (p2), .int .i64 (p3), .int .i64 (p4), .int .i64 (p5), .int .i64 (p6), .int .i64 (p7), .int .i64 (p8), .int .i64 (p9), .int .i64 (p10), .int .i64 (p11)], .int .i64 k, .int .i64 i, .int .i64 n] w fun r w' => r = .returned (vec (edZ p0 p3 p6 p9 k i n) (edZ p1 p4 p7 p10 k i n) (edZ p2 p5 p8 p11 k i n)) ∧ Below w.heap.size w w' := by
  have hB := below3 w (.cells #[.int .i64 (p0), .int .i64 (p1), .int .i64 (p2), .int .i64 (p3), .int .i64 (p4), .int .i64 (p5), .int .i64 (p6), .int .i64 (p7), .int .i64 (p8), .int .i64 (p9), .int .i64 (p10), .int .i64 (p11)] 50) (.cells #[.int .i64 (0), .int .i64 (0), .int .i64 (0)] 26) (.cells #[.int .i64 (0), .int .i64 (1), .int .i64 (2), .int .i64 (3), .int .i64 (0), .int .i64 (2), .int .i64 (1), .int .i64 (3)] 96)
  obtain ⟨b0, b1, b2⟩ := blk3 w #[.int .i64 (p0), .int .i64 (p1), .int .i64 (p2), .int .i64 (p3), .int .i64 (p4), .int .i64 (p5), .int .i64 (p6), .int .i64 (p7), .int .i64 (p8), .int .i64 (p9), .int .i64 (p10), .int .i64 (p11)] #[.int .i64 (0), .int .i64 (0), .int .i64 (0)] #[.int .i64 (0), .int .i64 (1), .int .i64 (2), .int .i64 (3), .int .i64 (0), .int .i64 (2), .int .i64 (1), .int .i64 (3)] 50 26 96
  go_enter Try.func31, Try.ntmps31
  go_wp2_with fail
  generalize (((w.alloc (.cells #[.int .i64 (p0), .int .i64 (p1), .int .i64 (p2), .int .i64 (p3), .int .i64 (p4), .int .i64 (p5), .int .i64 (p6), .int .i64 (p7), .int .i64 (p8), .int .i64 (p9), .int .i64 (p10), .int .i64 (p11)] 50)).alloc (.cells #[.int .i64 (0), .int .i64 (0), .int .i64 (0)] 26)).alloc (.cells #[.int .i64 (0), .int .i64 (1), .int .i64 (2), .int .i64 (3), .int .i64 (0), .int .i64 (2), .int .i64 (1), .int .i64 (3)] 96)) = W0 at hB b0 b1 b2 ⊢
  have c0 := b0.cell
  have f0 := b0.frozen
  have l0 := b0.lt
  have c1 := b1.cell
  have f1 := b1.frozen
  have l1 := b1.lt
  have c2 := b2.cell
  have f2 := b2.frozen
  have l2 := b2.lt
  refine (within_any _ _ _ _).mono ?_
  rintro r w2 ⟨rfl, rfl⟩
  cases h1 : inB k 0 3
  · have HE := Lib.hid (edZ_no h1)
    go_wp2_with fail
    refine (clamped_any _ _ _ _).mono ?_
    rintro e w1 ⟨rfl, hb⟩
    have hB := (by with_reducible first | exact b_keep hb hB | exact b_keep hb hB.drew)
    replace b0 : Blk w1 _ _ _ := (by with_reducible first | exact Blk.keep hb b0 | exact Blk.keep hb b0.drew)
    replace b1 : Blk w1 _ _ _ := (by with_reducible first | exact Blk.keep hb b1 | exact Blk.keep hb b1.drew)
    replace b2 : Blk w1 _ _ _ := (by with_reducible first | exact Blk.keep hb b2 | exact Blk.keep hb b2.drew)
    replace l0 := b0.lt
    replace l1 := b1.lt
    replace l2 := b2.lt
    replace c0 := b0.cell
    replace c1 := b1.cell
    replace c2 := b2.cell
    replace f0 := b0.frozen
    replace f1 := b1.frozen
    replace f2 := b2.frozen
    clear hb
    go_wp2
    exact bodyPost_ret (v := vec (edZ p0 p3 p6 p9 k i n) (edZ p1 p4 p7 p10 k i n) (edZ p2 p5 p8 p11 k i n)) (by simp [results, Try.results31, go_sem, c1, HE.out]) rfl ⟨rfl, (((hB.setCell (by dsimp only; omega) _).setCell (by dsimp only; omega) _).setCell (by dsimp only; omega) _)⟩
  · obtain ⟨k1, k2⟩ := inB_iff.1 h1
    rcases (by omega : k = 0 ∨ k = 1 ∨ k = 2 ∨ k = 3) with rfl | rfl | rfl | rfl
    all_goals clear k1 k2
    · have HE := Lib.hid edZ_0
      go_wp2_with fail
      go_region_held3 (fun w' => (∀ i, w'.cell? ⟨w.heap.size, i, none⟩ = (#[.int .i64 (p0), .int .i64 (p1), .int .i64 (p2), .int .i64 (p3), .int .i64 (p4), .int .i64 (p5), .int .i64 (p6), .int .i64 (p7), .int .i64 (p8), .int .i64 (p9), .int .i64 (p10), .int .i64 (p11)] : Array Value)[i]?) ∧ (∀ i, w'.cell? ⟨w.heap.size + 1 + 1, i, none⟩ = (#[.int .i64 (0), .int .i64 (1), .int .i64 (2), .int .i64 (3), .int .i64 (0), .int .i64 (2), .int .i64 (1), .int .i64 (3)] : Array Value)[i]?)) (first | with_reducible exact ⟨b0.cell, b2.cell⟩ | with_reducible exact ⟨b0.drew.cell, b2.drew.cell⟩ | with_reducible exact ⟨(b0.alloc _).cell, (b2.alloc _).cell⟩ | with_reducible exact ⟨(b0.alloc _).drew.cell, (b2.alloc _).drew.cell⟩ | exact ⟨(b0.far3 (by omega) _ _ _).cell, (b2.far3 (by omega) _ _ _).cell⟩ | exact ⟨(b0.far3 (by omega) _ _ _).drew.cell, (b2.far3 (by omega) _ _ _).drew.cell⟩ | go_keep)
        (first
          | (go_at_call 71; refine (lerpI p0 p1 p2 p3 p4 p5 i n _).mono ?_; rintro e w1 ⟨rfl, hb⟩; have hB := (by with_reducible first | exact b_keep hb hB | exact b_keep hb hB.drew); replace b0 : Blk w1 _ _ _ := (by with_reducible first | exact Blk.keep hb b0 | exact Blk.keep hb b0.drew); replace b1 : Blk w1 _ _ _ := (by with_reducible first | exact Blk.keep hb b1 | exact Blk.keep hb b1.drew); replace b2 : Blk w1 _ _ _ := (by with_reducible first | exact Blk.keep hb b2 | exact Blk.keep hb b2.drew); replace l0 := b0.lt; replace l1 := b1.lt; replace l2 := b2.lt; replace c0 := b0.cell; replace c1 := b1.cell; replace c2 := b2.cell; replace f0 := b0.frozen; replace f1 := b1.frozen; replace f2 := b2.frozen))
      go_wp2
      exact bodyPost_ret (v := vec (edZ p0 p3 p6 p9 0 i n) (edZ p1 p4 p7 p10 0 i n) (edZ p2 p5 p8 p11 0 i n)) (by simp [results, Try.results31, go_sem, c1, HE.out]) rfl ⟨rfl, (((hB.setCell (by dsimp only; omega) _).setCell (by dsimp only; omega) _).setCell (by dsimp only; omega) _)⟩
    · have HE := Lib.hid edZ_1
      go_wp2_with fail
      go_region_held3 (fun w' => (∀ i, w'.cell? ⟨w.heap.size, i, none⟩ = (#[.int .i64 (p0), .int .i64 (p1), .int .i64 (p2), .int .i64 (p3), .int .i64 (p4), .int .i64 (p5), .int .i64 (p6), .int .i64 (p7), .int .i64 (p8), .int .i64 (p9), .int .i64 (p10), .int .i64 (p11)] : Array Value)[i]?) ∧ (∀ i, w'.cell? ⟨w.heap.size + 1 + 1, i, none⟩ = (#[.int .i64 (0), .int .i64 (1), .int .i64 (2), .int .i64 (3), .int .i64 (0), .int .i64 (2), .int .i64 (1), .int .i64 (3)] : Array Value)[i]?)) (first | with_reducible exact ⟨b0.cell, b2.cell⟩ | with_reducible exact ⟨b0.drew.cell, b2.drew.cell⟩ | with_reducible exact ⟨(b0.alloc _).cell, (b2.alloc _).cell⟩ | with_reducible exact ⟨(b0.alloc _).drew.cell, (b2.alloc _).drew.cell⟩ | exact ⟨(b0.far3 (by omega) _ _ _).cell, (b2.far3 (by omega) _ _ _).cell⟩ | exact ⟨(b0.far3 (by omega) _ _ _).drew.cell, (b2.far3 (by omega) _ _ _).drew.cell⟩ | go_keep)
        (first
          | (go_at_call 71; refine (lerpI p6 p7 p8 p9 p10 p11 i n _).mono ?_; rintro e w1 ⟨rfl, hb⟩; have hB := (by with_reducible first | exact b_keep hb hB | exact b_keep hb hB.drew); replace b0 : Blk w1 _ _ _ := (by with_reducible first | exact Blk.keep hb b0 | exact Blk.keep hb b0.drew); replace b1 : Blk w1 _ _ _ := (by with_reducible first | exact Blk.keep hb b1 | exact Blk.keep hb b1.drew); replace b2 : Blk w1 _ _ _ := (by with_reducible first | exact Blk.keep hb b2 | exact Blk.keep hb b2.drew); replace l0 := b0.lt; replace l1 := b1.lt; replace l2 := b2.lt; replace c0 := b0.cell; replace c1 := b1.cell; replace c2 := b2.cell; replace f0 := b0.frozen; replace f1 := b1.frozen; replace f2 := b2.frozen))
      go_wp2
      exact bodyPost_ret (v := vec (edZ p0 p3 p6 p9 1 i n) (edZ p1 p4 p7 p10 1 i n) (edZ p2 p5 p8 p11 1 i n)) (by simp [results, Try.results31, go_sem, c1, HE.out]) rfl ⟨rfl, (((hB.setCell (by dsimp only; omega) _).setCell (by dsimp only; omega) _).setCell (by dsimp only; omega) _)⟩
    · have HE := Lib.hid edZ_2
      go_wp2_with fail
      go_region_held3 (fun w' => (∀ i, w'.cell? ⟨w.heap.size, i, none⟩ = (#[.int .i64 (p0), .int .i64 (p1), .int .i64 (p2), .int .i64 (p3), .int .i64 (p4), .int .i64 (p5), .int .i64 (p6), .int .i64 (p7), .int .i64 (p8), .int .i64 (p9), .int .i64 (p10), .int .i64 (p11)] : Array Value)[i]?) ∧ (∀ i, w'.cell? ⟨w.heap.size + 1 + 1, i, none⟩ = (#[.int .i64 (0), .int .i64 (1), .int .i64 (2), .int .i64 (3), .int .i64 (0), .int .i64 (2), .int .i64 (1), .int .i64 (3)] : Array Value)[i]?)) (first | with_reducible exact ⟨b0.cell, b2.cell⟩ | with_reducible exact ⟨b0.drew.cell, b2.drew.cell⟩ | with_reducible exact ⟨(b0.alloc _).cell, (b2.alloc _).cell⟩ | with_reducible exact ⟨(b0.alloc _).drew.cell, (b2.alloc _).drew.cell⟩ | exact ⟨(b0.far3 (by omega) _ _ _).cell, (b2.far3 (by omega) _ _ _).cell⟩ | exact ⟨(b0.far3 (by omega) _ _ _).drew.cell, (b2.far3 (by omega) _ _ _).drew.cell⟩ | go_keep)
        (first
          | (go_at_call 71; refine (lerpI p0 p1 p2 p6 p7 p8 i n _).mono ?_; rintro e w1 ⟨rfl, hb⟩; have hB := (by with_reducible first | exact b_keep hb hB | exact b_keep hb hB.drew); replace b0 : Blk w1 _ _ _ := (by with_reducible first | exact Blk.keep hb b0 | exact Blk.keep hb b0.drew); replace b1 : Blk w1 _ _ _ := (by with_reducible first | exact Blk.keep hb b1 | exact Blk.keep hb b1.drew); replace b2 : Blk w1 _ _ _ := (by with_reducible first | exact Blk.keep hb b2 | exact Blk.keep hb b2.drew); replace l0 := b0.lt; replace l1 := b1.lt; replace l2 := b2.lt; replace c0 := b0.cell; replace c1 := b1.cell; replace c2 := b2.cell; replace f0 := b0.frozen; replace f1 := b1.frozen; replace f2 := b2.frozen))
      go_wp2
      exact bodyPost_ret (v := vec (edZ p0 p3 p6 p9 2 i n) (edZ p1 p4 p7 p10 2 i n) (edZ p2 p5 p8 p11 2 i n)) (by simp [results, Try.results31, go_sem, c1, HE.out]) rfl ⟨rfl, (((hB.setCell (by dsimp only; omega) _).setCell (by dsimp only; omega) _).setCell (by dsimp only; omega) _)⟩
    · have HE := Lib.hid edZ_3
      go_wp2_with fail
      go_region_held3 (fun w' => (∀ i, w'.cell? ⟨w.heap.size, i, none⟩ = (#[.int .i64 (p0), .int .i64 (p1), .int .i64 (p2), .int .i64 (p3), .int .i64 (p4), .int .i64 (p5), .int .i64 (p6), .int .i64 (p7), .int .i64 (p8), .int .i64 (p9), .int .i64 (p10), .int .i64 (p11)] : Array Value)[i]?) ∧ (∀ i, w'.cell? ⟨w.heap.size + 1 + 1, i, none⟩ = (#[.int .i64 (0), .int .i64 (1), .int .i64 (2), .int .i64 (3), .int .i64 (0), .int .i64 (2), .int .i64 (1), .int .i64 (3)] : Array Value)[i]?)) (first | with_reducible exact ⟨b0.cell, b2.cell⟩ | with_reducible exact ⟨b0.drew.cell, b2.drew.cell⟩ | with_reducible exact ⟨(b0.alloc _).cell, (b2.alloc _).cell⟩ | with_reducible exact ⟨(b0.alloc _).drew.cell, (b2.alloc _).drew.cell⟩ | exact ⟨(b0.far3 (by omega) _ _ _).cell, (b2.far3 (by omega) _ _ _).cell⟩ | exact ⟨(b0.far3 (by omega) _ _ _).drew.cell, (b2.far3 (by omega) _ _ _).drew.cell⟩ | go_keep)
        (first
          | (go_at_call 71; refine (lerpI p3 p4 p5 p9 p10 p11 i n _).mono ?_; rintro e w1 ⟨rfl, hb⟩; have hB := (by with_reducible first | exact b_keep hb hB | exact b_keep hb hB.drew); replace b0 : Blk w1 _ _ _ := (by with_reducible first | exact Blk.keep hb b0 | exact Blk.keep hb b0.drew); replace b1 : Blk w1 _ _ _ := (by with_reducible first | exact Blk.keep hb b1 | exact Blk.keep hb b1.drew); replace b2 : Blk w1 _ _ _ := (by with_reducible first | exact Blk.keep hb b2 | exact Blk.keep hb b2.drew); replace l0 := b0.lt; replace l1 := b1.lt; replace l2 := b2.lt; replace c0 := b0.cell; replace c1 := b1.cell; replace c2 := b2.cell; replace f0 := b0.frozen; replace f1 := b1.frozen; replace f2 := b2.frozen))
      go_wp2
      exact bodyPost_ret (v := vec (edZ p0 p3 p6 p9 3 i n) (edZ p1 p4 p7 p10 3 i n) (edZ p2 p5 p8 p11 3 i n)) (by simp [results, Try.results31, go_sem, c1, HE.out]) rfl ⟨rfl, (((hB.setCell (by dsimp only; omega) _).setCell (by dsimp only; omega) _).setCell (by dsimp only; omega) _)⟩
set_option maxHeartbeats 4000000 in
theorem edgeS (p0 p1 p2 p3 p4 p5 p6 p7 p8 p9 p10 p11 k i n : Int) (w : World) :
    Calls Try.prog 30 #[.agg #[.int .i64 (p0), .int .i64 (p1), .int .i64 (p2), .int .i64 (p3), .int .i64 (p4), .int .i64 (p5), .int .i64 (p6), .int .i64 (p7), .int .i64 (p8), .int .i64 (p9), .int .i64 (p10), .int .i64 (p11)], .int .i64 k, .int .i64 i, .int .i64 n] w fun r w' => r = .returned (vec (edZ p0 p3 p6 p9 k i n) (edZ p1 p4 p7 p10 k i n) (edZ p2 p5 p8 p11 k i n)) ∧ Below w.heap.size w w' := by
  have hB := below2 w (.cells #[.int .i64 (p0), .int .i64 (p1), .int .i64 (p2), .int .i64 (p3), .int .i64 (p4), .int .i64 (p5), .int .i64 (p6), .int .i64 (p7), .int .i64 (p8), .int .i64 (p9), .int .i64 (p10), .int .i64 (p11)] 50) (.cells #[.int .i64 (0), .int .i64 (0), .int .i64 (0)] 26)
  obtain ⟨b0, b1⟩ := blk2 w #[.int .i64 (p0), .int .i64 (p1), .int .i64 (p2), .int .i64 (p3), .int .i64 (p4), .int .i64 (p5), .int .i64 (p6), .int .i64 (p7), .int .i64 (p8), .int .i64 (p9), .int .i64 (p10), .int .i64 (p11)] #[.int .i64 (0), .int .i64 (0), .int .i64 (0)] 50 26
  go_enter Try.func30, Try.ntmps30
  go_wp2_with fail
  generalize ((w.alloc (.cells #[.int .i64 (p0), .int .i64 (p1), .int .i64 (p2), .int .i64 (p3), .int .i64 (p4), .int .i64 (p5), .int .i64 (p6), .int .i64 (p7), .int .i64 (p8), .int .i64 (p9), .int .i64 (p10), .int .i64 (p11)] 50)).alloc (.cells #[.int .i64 (0), .int .i64 (0), .int .i64 (0)] 26)) = W0 at hB b0 b1 ⊢
  have c0 := b0.cell
  have f0 := b0.frozen
  have l0 := b0.lt
  have c1 := b1.cell
  have f1 := b1.frozen
  have l1 := b1.lt
  refine (l01In_any _ _ _ _).mono ?_
  rintro r w2 ⟨rfl, rfl⟩
  cases h1 : inB k 0 3
  · have HE := Lib.hid (edZ_no h1)
    go_wp2_with fail
    refine (l02V_any _ _ _ _).mono ?_
    rintro e w1 ⟨rfl, hb⟩
    have hB := (by with_reducible first | exact b_keep hb hB | exact b_keep hb hB.drew)
    replace b0 : Blk w1 _ _ _ := (by with_reducible first | exact Blk.keep hb b0 | exact Blk.keep hb b0.drew)
    replace b1 : Blk w1 _ _ _ := (by with_reducible first | exact Blk.keep hb b1 | exact Blk.keep hb b1.drew)
    replace l0 := b0.lt
    replace l1 := b1.lt
    replace c0 := b0.cell
    replace c1 := b1.cell
    replace f0 := b0.frozen
    replace f1 := b1.frozen
    clear hb
    go_wp2
    exact bodyPost_ret (v := vec (edZ p0 p3 p6 p9 k i n) (edZ p1 p4 p7 p10 k i n) (edZ p2 p5 p8 p11 k i n)) (by simp [results, Try.results30, go_sem, c1, HE.out]) rfl ⟨rfl, (((hB.setCell (by dsimp only; omega) _).setCell (by dsimp only; omega) _).setCell (by dsimp only; omega) _)⟩
  · obtain ⟨k1, k2⟩ := inB_iff.1 h1
    obtain ⟨⟨e0, e1, e2, e3, e4⟩, eb, ew⟩ := blk5 W0 #[.int .i64 (0), .int .i64 (1)] #[.int .i64 (2), .int .i64 (3)] #[.int .i64 (0), .int .i64 (2)] #[.int .i64 (1), .int .i64 (3)] #[.slice (some ⟨W0.heap.size, 0, none⟩) 2 2, .slice (some ⟨W0.heap.size + 1, 0, none⟩) 2 2, .slice (some ⟨W0.heap.size + 1 + 1, 0, none⟩) 2 2, .slice (some ⟨W0.heap.size + 1 + 1 + 1, 0, none⟩) 2 2] 92 3
    rcases (by omega : k = 0 ∨ k = 1 ∨ k = 2 ∨ k = 3) with rfl | rfl | rfl | rfl
    all_goals clear k1 k2
    · have HE := Lib.hid edZ_0
      go_wp2_with fail
      replace b0 := eb _ _ _ b0
      replace b1 := eb _ _ _ b1
      replace hB := ew _ _ hB.size hB
      have b2 := e0
      have b3 := e4
      clear e0 e1 e2 e3 e4 eb ew c0 c1 f0 f1
      have g0 : w.heap.size < W0.heap.size := l0
      have g1 : w.heap.size + 1 < W0.heap.size := l1
      clear l0 l1
      generalize (((((W0.alloc (.cells #[.int .i64 (0), .int .i64 (1)] 3)).alloc (.cells #[.int .i64 (2), .int .i64 (3)] 3)).alloc (.cells #[.int .i64 (0), .int .i64 (2)] 3)).alloc (.cells #[.int .i64 (1), .int .i64 (3)] 3)).alloc (.cells #[.slice (some ⟨W0.heap.size, 0, none⟩) 2 2, .slice (some ⟨W0.heap.size + 1, 0, none⟩) 2 2, .slice (some ⟨W0.heap.size + 1 + 1, 0, none⟩) 2 2, .slice (some ⟨W0.heap.size + 1 + 1 + 1, 0, none⟩) 2 2] 92)) = W1 at hB b0 b1 b2 b3 ⊢
      generalize W0.heap.size = q at g0 g1 b2 b3 ⊢
      have c0 := b0.cell
      have f0 := b0.frozen
      have l0 := b0.lt
      have c1 := b1.cell
      have f1 := b1.frozen
      have l1 := b1.lt
      have c2 := b2.cell
      have f2 := b2.frozen
      have l2 := b2.lt
      have c3 := b3.cell
      have f3 := b3.frozen
      have l3 := b3.lt
      go_region_held3 (fun w' => (∀ i, w'.cell? ⟨w.heap.size, i, none⟩ = (#[.int .i64 (p0), .int .i64 (p1), .int .i64 (p2), .int .i64 (p3), .int .i64 (p4), .int .i64 (p5), .int .i64 (p6), .int .i64 (p7), .int .i64 (p8), .int .i64 (p9), .int .i64 (p10), .int .i64 (p11)] : Array Value)[i]?) ∧ (∀ i, w'.cell? ⟨q, i, none⟩ = (#[.int .i64 (0), .int .i64 (1)] : Array Value)[i]?) ∧ (∀ i, w'.cell? ⟨q + 1 + 1 + 1 + 1, i, none⟩ = (#[.slice (some ⟨q, 0, none⟩) 2 2, .slice (some ⟨q + 1, 0, none⟩) 2 2, .slice (some ⟨q + 1 + 1, 0, none⟩) 2 2, .slice (some ⟨q + 1 + 1 + 1, 0, none⟩) 2 2] : Array Value)[i]?)) (first | with_reducible exact ⟨b0.cell, b2.cell, b3.cell⟩ | with_reducible exact ⟨b0.drew.cell, b2.drew.cell, b3.drew.cell⟩ | with_reducible exact ⟨(b0.alloc _).cell, (b2.alloc _).cell, (b3.alloc _).cell⟩ | with_reducible exact ⟨(b0.alloc _).drew.cell, (b2.alloc _).drew.cell, (b3.alloc _).drew.cell⟩ | exact ⟨(b0.far3 (by omega) _ _ _).cell, (b2.far3 (by omega) _ _ _).cell, (b3.far3 (by omega) _ _ _).cell⟩ | exact ⟨(b0.far3 (by omega) _ _ _).drew.cell, (b2.far3 (by omega) _ _ _).drew.cell, (b3.far3 (by omega) _ _ _).drew.cell⟩ | go_keep)
        (first
          | (go_at_call 70; refine (lerpS p0 p1 p2 p3 p4 p5 i n _).mono ?_; rintro e w1 ⟨rfl, hb⟩; have hB := (by with_reducible first | exact b_keep hb hB | exact b_keep hb hB.drew); replace b0 : Blk w1 _ _ _ := (by with_reducible first | exact Blk.keep hb b0 | exact Blk.keep hb b0.drew); replace b1 : Blk w1 _ _ _ := (by with_reducible first | exact Blk.keep hb b1 | exact Blk.keep hb b1.drew); replace b2 : Blk w1 _ _ _ := (by with_reducible first | exact Blk.keep hb b2 | exact Blk.keep hb b2.drew); replace b3 : Blk w1 _ _ _ := (by with_reducible first | exact Blk.keep hb b3 | exact Blk.keep hb b3.drew); replace l0 := b0.lt; replace l1 := b1.lt; replace l2 := b2.lt; replace l3 := b3.lt; replace c0 := b0.cell; replace c1 := b1.cell; replace c2 := b2.cell; replace c3 := b3.cell; replace f0 := b0.frozen; replace f1 := b1.frozen; replace f2 := b2.frozen; replace f3 := b3.frozen))
      go_wp2
      exact bodyPost_ret (v := vec (edZ p0 p3 p6 p9 0 i n) (edZ p1 p4 p7 p10 0 i n) (edZ p2 p5 p8 p11 0 i n)) (by simp [results, Try.results30, go_sem, c1, HE.out]) rfl ⟨rfl, (((hB.setCell (by dsimp only; omega) _).setCell (by dsimp only; omega) _).setCell (by dsimp only; omega) _)⟩
    · have HE := Lib.hid edZ_1
      go_wp2_with fail
      replace b0 := eb _ _ _ b0
      replace b1 := eb _ _ _ b1
      replace hB := ew _ _ hB.size hB
      have b2 := e1
      have b3 := e4
      clear e0 e1 e2 e3 e4 eb ew c0 c1 f0 f1
      have g0 : w.heap.size < W0.heap.size := l0
      have g1 : w.heap.size + 1 < W0.heap.size := l1
      clear l0 l1
      generalize (((((W0.alloc (.cells #[.int .i64 (0), .int .i64 (1)] 3)).alloc (.cells #[.int .i64 (2), .int .i64 (3)] 3)).alloc (.cells #[.int .i64 (0), .int .i64 (2)] 3)).alloc (.cells #[.int .i64 (1), .int .i64 (3)] 3)).alloc (.cells #[.slice (some ⟨W0.heap.size, 0, none⟩) 2 2, .slice (some ⟨W0.heap.size + 1, 0, none⟩) 2 2, .slice (some ⟨W0.heap.size + 1 + 1, 0, none⟩) 2 2, .slice (some ⟨W0.heap.size + 1 + 1 + 1, 0, none⟩) 2 2] 92)) = W1 at hB b0 b1 b2 b3 ⊢
      generalize W0.heap.size = q at g0 g1 b2 b3 ⊢
      have c0 := b0.cell
      have f0 := b0.frozen
      have l0 := b0.lt
      have c1 := b1.cell
      have f1 := b1.frozen
      have l1 := b1.lt
      have c2 := b2.cell
      have f2 := b2.frozen
      have l2 := b2.lt
      have c3 := b3.cell
      have f3 := b3.frozen
      have l3 := b3.lt
      go_region_held3 (fun w' => (∀ i, w'.cell? ⟨w.heap.size, i, none⟩ = (#[.int .i64 (p0), .int .i64 (p1), .int .i64 (p2), .int .i64 (p3), .int .i64 (p4), .int .i64 (p5), .int .i64 (p6), .int .i64 (p7), .int .i64 (p8), .int .i64 (p9), .int .i64 (p10), .int .i64 (p11)] : Array Value)[i]?) ∧ (∀ i, w'.cell? ⟨q + 1, i, none⟩ = (#[.int .i64 (2), .int .i64 (3)] : Array Value)[i]?) ∧ (∀ i, w'.cell? ⟨q + 1 + 1 + 1 + 1, i, none⟩ = (#[.slice (some ⟨q, 0, none⟩) 2 2, .slice (some ⟨q + 1, 0, none⟩) 2 2, .slice (some ⟨q + 1 + 1, 0, none⟩) 2 2, .slice (some ⟨q + 1 + 1 + 1, 0, none⟩) 2 2] : Array Value)[i]?)) (first | with_reducible exact ⟨b0.cell, b2.cell, b3.cell⟩ | with_reducible exact ⟨b0.drew.cell, b2.drew.cell, b3.drew.cell⟩ | with_reducible exact ⟨(b0.alloc _).cell, (b2.alloc _).cell, (b3.alloc _).cell⟩ | with_reducible exact ⟨(b0.alloc _).drew.cell, (b2.alloc _).drew.cell, (b3.alloc _).drew.cell⟩ | exact ⟨(b0.far3 (by omega) _ _ _).cell, (b2.far3 (by omega) _ _ _).cell, (b3.far3 (by omega) _ _ _).cell⟩ | exact ⟨(b0.far3 (by omega) _ _ _).drew.cell, (b2.far3 (by omega) _ _ _).drew.cell, (b3.far3 (by omega) _ _ _).drew.cell⟩ | go_keep)
        (first
          | (go_at_call 70; refine (lerpS p6 p7 p8 p9 p10 p11 i n _).mono ?_; rintro e w1 ⟨rfl, hb⟩; have hB := (by with_reducible first | exact b_keep hb hB | exact b_keep hb hB.drew); replace b0 : Blk w1 _ _ _ := (by with_reducible first | exact Blk.keep hb b0 | exact Blk.keep hb b0.drew); replace b1 : Blk w1 _ _ _ := (by with_reducible first | exact Blk.keep hb b1 | exact Blk.keep hb b1.drew); replace b2 : Blk w1 _ _ _ := (by with_reducible first | exact Blk.keep hb b2 | exact Blk.keep hb b2.drew); replace b3 : Blk w1 _ _ _ := (by with_reducible first | exact Blk.keep hb b3 | exact Blk.keep hb b3.drew); replace l0 := b0.lt; replace l1 := b1.lt; replace l2 := b2.lt; replace l3 := b3.lt; replace c0 := b0.cell; replace c1 := b1.cell; replace c2 := b2.cell; replace c3 := b3.cell; replace f0 := b0.frozen; replace f1 := b1.frozen; replace f2 := b2.frozen; replace f3 := b3.frozen))
      go_wp2
      exact bodyPost_ret (v := vec (edZ p0 p3 p6 p9 1 i n) (edZ p1 p4 p7 p10 1 i n) (edZ p2 p5 p8 p11 1 i n)) (by simp [results, Try.results30, go_sem, c1, HE.out]) rfl ⟨rfl, (((hB.setCell (by dsimp only; omega) _).setCell (by dsimp only; omega) _).setCell (by dsimp only; omega) _)⟩
    · have HE := Lib.hid edZ_2
      go_wp2_with fail
      replace b0 := eb _ _ _ b0
      replace b1 := eb _ _ _ b1
      replace hB := ew _ _ hB.size hB
      have b2 := e2
      have b3 := e4
      clear e0 e1 e2 e3 e4 eb ew c0 c1 f0 f1
      have g0 : w.heap.size < W0.heap.size := l0
      have g1 : w.heap.size + 1 < W0.heap.size := l1
      clear l0 l1
      generalize (((((W0.alloc (.cells #[.int .i64 (0), .int .i64 (1)] 3)).alloc (.cells #[.int .i64 (2), .int .i64 (3)] 3)).alloc (.cells #[.int .i64 (0), .int .i64 (2)] 3)).alloc (.cells #[.int .i64 (1), .int .i64 (3)] 3)).alloc (.cells #[.slice (some ⟨W0.heap.size, 0, none⟩) 2 2, .slice (some ⟨W0.heap.size + 1, 0, none⟩) 2 2, .slice (some ⟨W0.heap.size + 1 + 1, 0, none⟩) 2 2, .slice (some ⟨W0.heap.size + 1 + 1 + 1, 0, none⟩) 2 2] 92)) = W1 at hB b0 b1 b2 b3 ⊢
      generalize W0.heap.size = q at g0 g1 b2 b3 ⊢
      have c0 := b0.cell
      have f0 := b0.frozen
      have l0 := b0.lt
      have c1 := b1.cell
      have f1 := b1.frozen
      have l1 := b1.lt
      have c2 := b2.cell
      have f2 := b2.frozen
      have l2 := b2.lt
      have c3 := b3.cell
      have f3 := b3.frozen
      have l3 := b3.lt
      go_region_held3 (fun w' => (∀ i, w'.cell? ⟨w.heap.size, i, none⟩ = (#[.int .i64 (p0), .int .i64 (p1), .int .i64 (p2), .int .i64 (p3), .int .i64 (p4), .int .i64 (p5), .int .i64 (p6), .int .i64 (p7), .int .i64 (p8), .int .i64 (p9), .int .i64 (p10), .int .i64 (p11)] : Array Value)[i]?) ∧ (∀ i, w'.cell? ⟨q + 1 + 1, i, none⟩ = (#[.int .i64 (0), .int .i64 (2)] : Array Value)[i]?) ∧ (∀ i, w'.cell? ⟨q + 1 + 1 + 1 + 1, i, none⟩ = (#[.slice (some ⟨q, 0, none⟩) 2 2, .slice (some ⟨q + 1, 0, none⟩) 2 2, .slice (some ⟨q + 1 + 1, 0, none⟩) 2 2, .slice (some ⟨q + 1 + 1 + 1, 0, none⟩) 2 2] : Array Value)[i]?)) (first | with_reducible exact ⟨b0.cell, b2.cell, b3.cell⟩ | with_reducible exact ⟨b0.drew.cell, b2.drew.cell, b3.drew.cell⟩ | with_reducible exact ⟨(b0.alloc _).cell, (b2.alloc _).cell, (b3.alloc _).cell⟩ | with_reducible exact ⟨(b0.alloc _).drew.cell, (b2.alloc _).drew.cell, (b3.alloc _).drew.cell⟩ | exact ⟨(b0.far3 (by omega) _ _ _).cell, (b2.far3 (by omega) _ _ _).cell, (b3.far3 (by omega) _ _ _).cell⟩ | exact ⟨(b0.far3 (by omega) _ _ _).drew.cell, (b2.far3 (by omega) _ _ _).drew.cell, (b3.far3 (by omega) _ _ _).drew.cell⟩ | go_keep)
        (first
          | (go_at_call 70; refine (lerpS p0 p1 p2 p6 p7 p8 i n _).mono ?_; rintro e w1 ⟨rfl, hb⟩; have hB := (by with_reducible first | exact b_keep hb hB | exact b_keep hb hB.drew); replace b0 : Blk w1 _ _ _ := (by with_reducible first | exact Blk.keep hb b0 | exact Blk.keep hb b0.drew); replace b1 : Blk w1 _ _ _ := (by with_reducible first | exact Blk.keep hb b1 | exact Blk.keep hb b1.drew); replace b2 : Blk w1 _ _ _ := (by with_reducible first | exact Blk.keep hb b2 | exact Blk.keep hb b2.drew); replace b3 : Blk w1 _ _ _ := (by with_reducible first | exact Blk.keep hb b3 | exact Blk.keep hb b3.drew); replace l0 := b0.lt; replace l1 := b1.lt; replace l2 := b2.lt; replace l3 := b3.lt; replace c0 := b0.cell; replace c1 := b1.cell; replace c2 := b2.cell; replace c3 := b3.cell; replace f0 := b0.frozen; replace f1 := b1.frozen; replace f2 := b2.frozen; replace f3 := b3.frozen))
      go_wp2
      exact bodyPost_ret (v := vec (edZ p0 p3 p6 p9 2 i n) (edZ p1 p4 p7 p10 2 i n) (edZ p2 p5 p8 p11 2 i n)) (by simp [results, Try.results30, go_sem, c1, HE.out]) rfl ⟨rfl, (((hB.setCell (by dsimp only; omega) _).setCell (by dsimp only; omega) _).setCell (by dsimp only; omega) _)⟩
    · have HE := Lib.hid edZ_3
      go_wp2_with fail
      replace b0 := eb _ _ _ b0
      replace b1 := eb _ _ _ b1
      replace hB := ew _ _ hB.size hB
      have b2 := e3
      have b3 := e4
      clear e0 e1 e2 e3 e4 eb ew c0 c1 f0 f1
      have g0 : w.heap.size < W0.heap.size := l0
      have g1 : w.heap.size + 1 < W0.heap.size := l1
      clear l0 l1
      generalize (((((W0.alloc (.cells #[.int .i64 (0), .int .i64 (1)] 3)).alloc (.cells #[.int .i64 (2), .int .i64 (3)] 3)).alloc (.cells #[.int .i64 (0), .int .i64 (2)] 3)).alloc (.cells #[.int .i64 (1), .int .i64 (3)] 3)).alloc (.cells #[.slice (some ⟨W0.heap.size, 0, none⟩) 2 2, .slice (some ⟨W0.heap.size + 1, 0, none⟩) 2 2, .slice (some ⟨W0.heap.size + 1 + 1, 0, none⟩) 2 2, .slice (some ⟨W0.heap.size + 1 + 1 + 1, 0, none⟩) 2 2] 92)) = W1 at hB b0 b1 b2 b3 ⊢
      generalize W0.heap.size = q at g0 g1 b2 b3 ⊢
      have c0 := b0.cell
      have f0 := b0.frozen
      have l0 := b0.lt
      have c1 := b1.cell
      have f1 := b1.frozen
      have l1 := b1.lt
      have c2 := b2.cell
      have f2 := b2.frozen
      have l2 := b2.lt
      have c3 := b3.cell
      have f3 := b3.frozen
      have l3 := b3.lt
      go_region_held3 (fun w' => (∀ i, w'.cell? ⟨w.heap.size, i, none⟩ = (#[.int .i64 (p0), .int .i64 (p1), .int .i64 (p2), .int .i64 (p3), .int .i64 (p4), .int .i64 (p5), .int .i64 (p6), .int .i64 (p7), .int .i64 (p8), .int .i64 (p9), .int .i64 (p10), .int .i64 (p11)] : Array Value)[i]?) ∧ (∀ i, w'.cell? ⟨q + 1 + 1 + 1, i, none⟩ = (#[.int .i64 (1), .int .i64 (3)] : Array Value)[i]?) ∧ (∀ i, w'.cell? ⟨q + 1 + 1 + 1 + 1, i, none⟩ = (#[.slice (some ⟨q, 0, none⟩) 2 2, .slice (some ⟨q + 1, 0, none⟩) 2 2, .slice (some ⟨q + 1 + 1, 0, none⟩) 2 2, .slice (some ⟨q + 1 + 1 + 1, 0, none⟩) 2 2] : Array Value)[i]?)) (first | with_reducible exact ⟨b0.cell, b2.cell, b3.cell⟩ | with_reducible exact ⟨b0.drew.cell, b2.drew.cell, b3.drew.cell⟩ | with_reducible exact ⟨(b0.alloc _).cell, (b2.alloc _).cell, (b3.alloc _).cell⟩ | with_reducible exact ⟨(b0.alloc _).drew.cell, (b2.alloc _).drew.cell, (b3.alloc _).drew.cell⟩ | exact ⟨(b0.far3 (by omega) _ _ _).cell, (b2.far3 (by omega) _ _ _).cell, (b3.far3 (by omega) _ _ _).cell⟩ | exact ⟨(b0.far3 (by omega) _ _ _).drew.cell, (b2.far3 (by omega) _ _ _).drew.cell, (b3.far3 (by omega) _ _ _).drew.cell⟩ | go_keep)
        (first
          | (go_at_call 70; refine (lerpS p3 p4 p5 p9 p10 p11 i n _).mono ?_; rintro e w1 ⟨rfl, hb⟩; have hB := (by with_reducible first | exact b_keep hb hB | exact b_keep hb hB.drew); replace b0 : Blk w1 _ _ _ := (by with_reducible first | exact Blk.keep hb b0 | exact Blk.keep hb b0.drew); replace b1 : Blk w1 _ _ _ := (by with_reducible first | exact Blk.keep hb b1 | exact Blk.keep hb b1.drew); replace b2 : Blk w1 _ _ _ := (by with_reducible first | exact Blk.keep hb b2 | exact Blk.keep hb b2.drew); replace b3 : Blk w1 _ _ _ := (by with_reducible first | exact Blk.keep hb b3 | exact Blk.keep hb b3.drew); replace l0 := b0.lt; replace l1 := b1.lt; replace l2 := b2.lt; replace l3 := b3.lt; replace c0 := b0.cell; replace c1 := b1.cell; replace c2 := b2.cell; replace c3 := b3.cell; replace f0 := b0.frozen; replace f1 := b1.frozen; replace f2 := b2.frozen; replace f3 := b3.frozen))
      go_wp2
      exact bodyPost_ret (v := vec (edZ p0 p3 p6 p9 3 i n) (edZ p1 p4 p7 p10 3 i n) (edZ p2 p5 p8 p11 3 i n)) (by simp [results, Try.results30, go_sem, c1, HE.out]) rfl ⟨rfl, (((hB.setCell (by dsimp only; omega) _).setCell (by dsimp only; omega) _).setCell (by dsimp only; omega) _)⟩
end Go.Proofs.Ytobfccoljijnkaa
