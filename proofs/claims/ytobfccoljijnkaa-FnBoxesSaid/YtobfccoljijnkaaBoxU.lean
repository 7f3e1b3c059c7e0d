/- Contracts of UnionBox and ExpandBox, of the program and of the reference; the laws' comparison of boxes. -/
import Derived.Test.YtobfccoljijnkaaBox
import Derived.Test.YtobfccoljijnkaaVec5
import Derived.Test.YtobfccoljijnkaaVecS
import Derived.Deep.DeepCutAuto
namespace Go.Proofs.Ytobfccoljijnkaa
open Go.RowKit

theorem Blk.set6 {w : World} {g : Nat} {t : TypeId} {p q r p' q' r' : Value} (h : Blk w g t #[p, q, r, p', q', r']) (a b c d e f : Value) :
    Blk ((((((w.setCell ⟨g, 0, none⟩ a).setCell ⟨g, 1, none⟩ b).setCell ⟨g, 2, none⟩ c).setCell ⟨g, 3, none⟩ d).setCell ⟨g, 4, none⟩ e).setCell ⟨g, 5, none⟩ f) g t #[a, b, c, d, e, f] :=
  (((((h.set_ 0 a).set_ 1 b).set_ 2 c).set_ 3 d).set_ 4 e).set_ 5 f
theorem Blk.far6 {w : World} {g : Nat} {t : TypeId} {cs : Array Value} (h : Blk w g t cs) {g' : Nat} (hp : g ≠ g') (a b c d e f : Value) :
    Blk ((((((w.setCell ⟨g', 0, none⟩ a).setCell ⟨g', 1, none⟩ b).setCell ⟨g', 2, none⟩ c).setCell ⟨g', 3, none⟩ d).setCell ⟨g', 4, none⟩ e).setCell ⟨g', 5, none⟩ f) g t cs :=
  (((h.far3 hp a b c).far (p := ⟨g', 3, none⟩) hp d).far (p := ⟨g', 4, none⟩) hp e).far (p := ⟨g', 5, none⟩) hp f
theorem below_set6 {w : World} {B : Nat} {w0 : World} (h : Below B w0 w) {g' : Nat} (hp : B ≤ g') (a b c d e f : Value) :
    Below B w0 ((((((w.setCell ⟨g', 0, none⟩ a).setCell ⟨g', 1, none⟩ b).setCell ⟨g', 2, none⟩ c).setCell ⟨g', 3, none⟩ d).setCell ⟨g', 4, none⟩ e).setCell ⟨g', 5, none⟩ f) :=
  (((below_set3 h hp a b c).setCell (p := ⟨g', 3, none⟩) hp d).setCell (p := ⟨g', 4, none⟩) hp e).setCell (p := ⟨g', 5, none⟩) hp f
set_option maxHeartbeats 2000000 in
theorem eqBox_same (pa pb pc pd pe pf : Int) (w : World) :
    Calls Try.prog 17 #[.agg #[.int .i64 (pa), .int .i64 (pb), .int .i64 (pc), .int .i64 (pd), .int .i64 (pe), .int .i64 (pf)], .agg #[.int .i64 (pa), .int .i64 (pb), .int .i64 (pc), .int .i64 (pd), .int .i64 (pe), .int .i64 (pf)]] w fun r w' => r = .returned (.bool true) ∧ Below w.heap.size w w' := by
  have hB := below2 w (.cells #[.int .i64 (pa), .int .i64 (pb), .int .i64 (pc), .int .i64 (pd), .int .i64 (pe), .int .i64 (pf)] 28) (.cells #[.int .i64 (pa), .int .i64 (pb), .int .i64 (pc), .int .i64 (pd), .int .i64 (pe), .int .i64 (pf)] 28)
  obtain ⟨b0, b1⟩ := blk2 w #[.int .i64 (pa), .int .i64 (pb), .int .i64 (pc), .int .i64 (pd), .int .i64 (pe), .int .i64 (pf)] #[.int .i64 (pa), .int .i64 (pb), .int .i64 (pc), .int .i64 (pd), .int .i64 (pe), .int .i64 (pf)] 28 28
  go_enter Try.func17, Try.ntmps17
  go_wp2_with fail
  generalize ((w.alloc (.cells #[.int .i64 (pa), .int .i64 (pb), .int .i64 (pc), .int .i64 (pd), .int .i64 (pe), .int .i64 (pf)] 28)).alloc (.cells #[.int .i64 (pa), .int .i64 (pb), .int .i64 (pc), .int .i64 (pd), .int .i64 (pe), .int .i64 (pf)] 28)) = W0 at hB b0 b1 ⊢
  have c0 := b0.cell
  have f0 := b0.frozen
  have l0 := b0.lt
  have c1 := b1.cell
  have f1 := b1.frozen
  have l1 := b1.lt
  refine (eqVec_same _ _ _ _).mono ?_
  rintro e w1 ⟨rfl, hb⟩
  have hB := (by with_reducible first | exact b_keep hb hB | exact b_keep hb hB.drew)
  replace b0 : Blk w1 _ _ _ := (by with_reducible first | exact Blk.keep hb b0 | exact Blk.keep hb b0.drew)
  replace b1 : Blk w1 _ _ _ := (by with_reducible first | exact Blk.keep hb b1 | exact Blk.keep hb b1.drew)
  replace l0 := b0.lt
  replace l1 := b1.lt
  replace c0 := b0.cell
  replace c1 := b1.cell
  replace f0 := b0.frozen
  replace f1 := b1.frozen
  clear hb
  go_wp2_with fail
  refine (eqVec_same _ _ _ _).mono ?_
  rintro e w1 ⟨rfl, hb⟩
  have hB := (by with_reducible first | exact b_keep hb hB | exact b_keep hb hB.drew)
  replace b0 : Blk w1 _ _ _ := (by with_reducible first | exact Blk.keep hb b0 | exact Blk.keep hb b0.drew)
  replace b1 : Blk w1 _ _ _ := (by with_reducible first | exact Blk.keep hb b1 | exact Blk.keep hb b1.drew)
  replace l0 := b0.lt
  replace l1 := b1.lt
  replace c0 := b0.cell
  replace c1 := b1.cell
  replace f0 := b0.frozen
  replace f1 := b1.frozen
  clear hb
  go_wp2
  go_ret
  exact ⟨rfl, hB⟩
set_option maxHeartbeats 2000000 in
theorem unionI (pa pb pc pd pe pf qa qb qc qd qe qf : Int) (w : World) :
    Calls Try.prog 19 #[.agg #[.int .i64 (pa), .int .i64 (pb), .int .i64 (pc), .int .i64 (pd), .int .i64 (pe), .int .i64 (pf)], .agg #[.int .i64 (qa), .int .i64 (qb), .int .i64 (qc), .int .i64 (qd), .int .i64 (qe), .int .i64 (qf)]] w fun r w' => r = .returned (.agg #[.int .i64 (mnZ (cl pa) (cl qa)), .int .i64 (mnZ (cl pb) (cl qb)), .int .i64 (mnZ (cl pc) (cl qc)), .int .i64 (mxZ (cl pd) (cl qd)), .int .i64 (mxZ (cl pe) (cl qe)), .int .i64 (mxZ (cl pf) (cl qf))]) ∧ Below w.heap.size w w' := by
  have hB := below3 w (.cells #[.int .i64 (pa), .int .i64 (pb), .int .i64 (pc), .int .i64 (pd), .int .i64 (pe), .int .i64 (pf)] 28) (.cells #[.int .i64 (qa), .int .i64 (qb), .int .i64 (qc), .int .i64 (qd), .int .i64 (qe), .int .i64 (qf)] 28) (.cells #[.int .i64 (0), .int .i64 (0), .int .i64 (0), .int .i64 (0), .int .i64 (0), .int .i64 (0)] 28)
  obtain ⟨b0, b1, b2⟩ := blk3 w #[.int .i64 (pa), .int .i64 (pb), .int .i64 (pc), .int .i64 (pd), .int .i64 (pe), .int .i64 (pf)] #[.int .i64 (qa), .int .i64 (qb), .int .i64 (qc), .int .i64 (qd), .int .i64 (qe), .int .i64 (qf)] #[.int .i64 (0), .int .i64 (0), .int .i64 (0), .int .i64 (0), .int .i64 (0), .int .i64 (0)] 28 28 28
  go_enter Try.func19, Try.ntmps19
  go_wp2_with fail
  generalize (((w.alloc (.cells #[.int .i64 (pa), .int .i64 (pb), .int .i64 (pc), .int .i64 (pd), .int .i64 (pe), .int .i64 (pf)] 28)).alloc (.cells #[.int .i64 (qa), .int .i64 (qb), .int .i64 (qc), .int .i64 (qd), .int .i64 (qe), .int .i64 (qf)] 28)).alloc (.cells #[.int .i64 (0), .int .i64 (0), .int .i64 (0), .int .i64 (0), .int .i64 (0), .int .i64 (0)] 28)) = W0 at hB b0 b1 b2 ⊢
  have c0 := b0.cell
  have f0 := b0.frozen
  have l0 := b0.lt
  have c1 := b1.cell
  have f1 := b1.frozen
  have l1 := b1.lt
  have c2 := b2.cell
  have f2 := b2.frozen
  have l2 := b2.lt
  go_region_held3 (fun w' => (∀ i, w'.cell? ⟨w.heap.size, i, none⟩ = (#[.int .i64 (pa), .int .i64 (pb), .int .i64 (pc), .int .i64 (pd), .int .i64 (pe), .int .i64 (pf)] : Array Value)[i]?) ∧ (∀ i, w'.cell? ⟨w.heap.size + 1, i, none⟩ = (#[.int .i64 (qa), .int .i64 (qb), .int .i64 (qc), .int .i64 (qd), .int .i64 (qe), .int .i64 (qf)] : Array Value)[i]?)) (first | with_reducible exact ⟨b0.cell, b1.cell⟩ | with_reducible exact ⟨b0.drew.cell, b1.drew.cell⟩ | with_reducible exact ⟨(b0.alloc _).cell, (b1.alloc _).cell⟩ | with_reducible exact ⟨(b0.alloc _).drew.cell, (b1.alloc _).drew.cell⟩ | with_reducible exact ⟨(b0.far6 (by omega) _ _ _ _ _ _).cell, (b1.far6 (by omega) _ _ _ _ _ _).cell⟩ | with_reducible exact ⟨(b0.far6 (by omega) _ _ _ _ _ _).drew.cell, (b1.far6 (by omega) _ _ _ _ _ _).drew.cell⟩)
    (first
      | (go_at_call 59; refine (minI _ _ _ _ _ _ _).mono ?_; rintro e w1 ⟨rfl, hb⟩; have hB := (by with_reducible first | exact b_keep hb hB | exact b_keep hb hB.drew); replace b0 : Blk w1 _ _ _ := (by with_reducible first | exact Blk.keep hb b0 | exact Blk.keep hb b0.drew); replace b1 : Blk w1 _ _ _ := (by with_reducible first | exact Blk.keep hb b1 | exact Blk.keep hb b1.drew); replace b2 : Blk w1 _ _ _ := (by with_reducible first | exact Blk.keep hb b2 | exact Blk.keep hb b2.drew); replace l0 := b0.lt; replace l1 := b1.lt; replace l2 := b2.lt; replace c0 := b0.cell; replace c1 := b1.cell; replace c2 := b2.cell; replace f0 := b0.frozen; replace f1 := b1.frozen; replace f2 := b2.frozen)
      | (go_at_call 60; refine (maxI _ _ _ _ _ _ _).mono ?_; rintro e w1 ⟨rfl, hb⟩; have hB := (by with_reducible first | exact b_keep hb hB | exact b_keep hb hB.drew); replace b0 : Blk w1 _ _ _ := (by with_reducible first | exact Blk.keep hb b0 | exact Blk.keep hb b0.drew); replace b1 : Blk w1 _ _ _ := (by with_reducible first | exact Blk.keep hb b1 | exact Blk.keep hb b1.drew); replace b2 : Blk w1 _ _ _ := (by with_reducible first | exact Blk.keep hb b2 | exact Blk.keep hb b2.drew); replace l0 := b0.lt; replace l1 := b1.lt; replace l2 := b2.lt; replace c0 := b0.cell; replace c1 := b1.cell; replace c2 := b2.cell; replace f0 := b0.frozen; replace f1 := b1.frozen; replace f2 := b2.frozen))
  go_wp2
  exact bodyPost_ret (v := .agg #[.int .i64 (mnZ (cl pa) (cl qa)), .int .i64 (mnZ (cl pb) (cl qb)), .int .i64 (mnZ (cl pc) (cl qc)), .int .i64 (mxZ (cl pd) (cl qd)), .int .i64 (mxZ (cl pe) (cl qe)), .int .i64 (mxZ (cl pf) (cl qf))]) (by simp [results, Try.results19, go_sem, c2]) rfl ⟨rfl, ((((((hB.setCell (by dsimp only; omega) _).setCell (by dsimp only; omega) _).setCell (by dsimp only; omega) _).setCell (by dsimp only; omega) _).setCell (by dsimp only; omega) _).setCell (by dsimp only; omega) _)⟩
set_option maxHeartbeats 2000000 in
theorem unionS (pa pb pc pd pe pf qa qb qc qd qe qf : Int) (w : World) :
    Calls Try.prog 18 #[.agg #[.int .i64 (pa), .int .i64 (pb), .int .i64 (pc), .int .i64 (pd), .int .i64 (pe), .int .i64 (pf)], .agg #[.int .i64 (qa), .int .i64 (qb), .int .i64 (qc), .int .i64 (qd), .int .i64 (qe), .int .i64 (qf)]] w fun r w' => r = .returned (.agg #[.int .i64 (mnZ (cl pa) (cl qa)), .int .i64 (mnZ (cl pb) (cl qb)), .int .i64 (mnZ (cl pc) (cl qc)), .int .i64 (mxZ (cl pd) (cl qd)), .int .i64 (mxZ (cl pe) (cl qe)), .int .i64 (mxZ (cl pf) (cl qf))]) ∧ Below w.heap.size w w' := by
  have hB := below3 w (.cells #[.int .i64 (pa), .int .i64 (pb), .int .i64 (pc), .int .i64 (pd), .int .i64 (pe), .int .i64 (pf)] 28) (.cells #[.int .i64 (qa), .int .i64 (qb), .int .i64 (qc), .int .i64 (qd), .int .i64 (qe), .int .i64 (qf)] 28) (.cells #[.int .i64 (0), .int .i64 (0), .int .i64 (0), .int .i64 (0), .int .i64 (0), .int .i64 (0)] 28)
  obtain ⟨b0, b1, b2⟩ := blk3 w #[.int .i64 (pa), .int .i64 (pb), .int .i64 (pc), .int .i64 (pd), .int .i64 (pe), .int .i64 (pf)] #[.int .i64 (qa), .int .i64 (qb), .int .i64 (qc), .int .i64 (qd), .int .i64 (qe), .int .i64 (qf)] #[.int .i64 (0), .int .i64 (0), .int .i64 (0), .int .i64 (0), .int .i64 (0), .int .i64 (0)] 28 28 28
  go_enter Try.func18, Try.ntmps18
  go_wp2_with fail
  generalize (((w.alloc (.cells #[.int .i64 (pa), .int .i64 (pb), .int .i64 (pc), .int .i64 (pd), .int .i64 (pe), .int .i64 (pf)] 28)).alloc (.cells #[.int .i64 (qa), .int .i64 (qb), .int .i64 (qc), .int .i64 (qd), .int .i64 (qe), .int .i64 (qf)] 28)).alloc (.cells #[.int .i64 (0), .int .i64 (0), .int .i64 (0), .int .i64 (0), .int .i64 (0), .int .i64 (0)] 28)) = W0 at hB b0 b1 b2 ⊢
  have c0 := b0.cell
  have f0 := b0.frozen
  have l0 := b0.lt
  have c1 := b1.cell
  have f1 := b1.frozen
  have l1 := b1.lt
  have c2 := b2.cell
  have f2 := b2.frozen
  have l2 := b2.lt
  go_region_held3 (fun w' => (∀ i, w'.cell? ⟨w.heap.size, i, none⟩ = (#[.int .i64 (pa), .int .i64 (pb), .int .i64 (pc), .int .i64 (pd), .int .i64 (pe), .int .i64 (pf)] : Array Value)[i]?) ∧ (∀ i, w'.cell? ⟨w.heap.size + 1, i, none⟩ = (#[.int .i64 (qa), .int .i64 (qb), .int .i64 (qc), .int .i64 (qd), .int .i64 (qe), .int .i64 (qf)] : Array Value)[i]?)) (first | with_reducible exact ⟨b0.cell, b1.cell⟩ | with_reducible exact ⟨b0.drew.cell, b1.drew.cell⟩ | with_reducible exact ⟨(b0.alloc _).cell, (b1.alloc _).cell⟩ | with_reducible exact ⟨(b0.alloc _).drew.cell, (b1.alloc _).drew.cell⟩ | with_reducible exact ⟨(b0.far6 (by omega) _ _ _ _ _ _).cell, (b1.far6 (by omega) _ _ _ _ _ _).cell⟩ | with_reducible exact ⟨(b0.far6 (by omega) _ _ _ _ _ _).drew.cell, (b1.far6 (by omega) _ _ _ _ _ _).drew.cell⟩)
    (first
      | (go_at_call 57; refine (minS _ _ _ _ _ _ _).mono ?_; rintro e w1 ⟨rfl, hb⟩; have hB := (by with_reducible first | exact b_keep hb hB | exact b_keep hb hB.drew); replace b0 : Blk w1 _ _ _ := (by with_reducible first | exact Blk.keep hb b0 | exact Blk.keep hb b0.drew); replace b1 : Blk w1 _ _ _ := (by with_reducible first | exact Blk.keep hb b1 | exact Blk.keep hb b1.drew); replace b2 : Blk w1 _ _ _ := (by with_reducible first | exact Blk.keep hb b2 | exact Blk.keep hb b2.drew); replace l0 := b0.lt; replace l1 := b1.lt; replace l2 := b2.lt; replace c0 := b0.cell; replace c1 := b1.cell; replace c2 := b2.cell; replace f0 := b0.frozen; replace f1 := b1.frozen; replace f2 := b2.frozen)
      | (go_at_call 58; refine (maxS _ _ _ _ _ _ _).mono ?_; rintro e w1 ⟨rfl, hb⟩; have hB := (by with_reducible first | exact b_keep hb hB | exact b_keep hb hB.drew); replace b0 : Blk w1 _ _ _ := (by with_reducible first | exact Blk.keep hb b0 | exact Blk.keep hb b0.drew); replace b1 : Blk w1 _ _ _ := (by with_reducible first | exact Blk.keep hb b1 | exact Blk.keep hb b1.drew); replace b2 : Blk w1 _ _ _ := (by with_reducible first | exact Blk.keep hb b2 | exact Blk.keep hb b2.drew); replace l0 := b0.lt; replace l1 := b1.lt; replace l2 := b2.lt; replace c0 := b0.cell; replace c1 := b1.cell; replace c2 := b2.cell; replace f0 := b0.frozen; replace f1 := b1.frozen; replace f2 := b2.frozen))
  go_wp2
  exact bodyPost_ret (v := .agg #[.int .i64 (mnZ (cl pa) (cl qa)), .int .i64 (mnZ (cl pb) (cl qb)), .int .i64 (mnZ (cl pc) (cl qc)), .int .i64 (mxZ (cl pd) (cl qd)), .int .i64 (mxZ (cl pe) (cl qe)), .int .i64 (mxZ (cl pf) (cl qf))]) (by simp [results, Try.results18, go_sem, c2]) rfl ⟨rfl, ((((((hB.setCell (by dsimp only; omega) _).setCell (by dsimp only; omega) _).setCell (by dsimp only; omega) _).setCell (by dsimp only; omega) _).setCell (by dsimp only; omega) _).setCell (by dsimp only; omega) _)⟩
def exL (a k : Int) : Int := if inB k 0 1000000 then cl (cl a - cl k) else a
def exH (a k : Int) : Int := if inB k 0 1000000 then cl (cl a + cl k) else a
theorem exL_yes {k : Int} (h : inB k 0 1000000 = true) (a : Int) : exL a k = cl (cl a - cl k) := by unfold exL; rw [h]; rfl
theorem exH_yes {k : Int} (h : inB k 0 1000000 = true) (a : Int) : exH a k = cl (cl a + cl k) := by unfold exH; rw [h]; rfl
theorem exL_no {k : Int} (h : inB k 0 1000000 = false) (a : Int) : exL a k = a := by unfold exL; rw [h]; rfl
theorem exH_no {k : Int} (h : inB k 0 1000000 = false) (a : Int) : exH a k = a := by unfold exH; rw [h]; rfl
set_option maxHeartbeats 2000000 in
theorem expandI (pa pb pc pd pe pf k : Int) (w : World) :
    Calls Try.prog 16 #[.agg #[.int .i64 (pa), .int .i64 (pb), .int .i64 (pc), .int .i64 (pd), .int .i64 (pe), .int .i64 (pf)], .int .i64 k] w fun r w' => r = .returned (.agg #[.int .i64 (exL pa k), .int .i64 (exL pb k), .int .i64 (exL pc k), .int .i64 (exH pd k), .int .i64 (exH pe k), .int .i64 (exH pf k)]) ∧ Below w.heap.size w w' := by
  have hB := below2 w (.cells #[.int .i64 (pa), .int .i64 (pb), .int .i64 (pc), .int .i64 (pd), .int .i64 (pe), .int .i64 (pf)] 28) (.cells #[.int .i64 (0), .int .i64 (0), .int .i64 (0), .int .i64 (0), .int .i64 (0), .int .i64 (0)] 28)
  obtain ⟨b0, b1⟩ := blk2 w #[.int .i64 (pa), .int .i64 (pb), .int .i64 (pc), .int .i64 (pd), .int .i64 (pe), .int .i64 (pf)] #[.int .i64 (0), .int .i64 (0), .int .i64 (0), .int .i64 (0), .int .i64 (0), .int .i64 (0)] 28 28
  go_enter Try.func16, Try.ntmps16
  go_wp2_with fail
  generalize ((w.alloc (.cells #[.int .i64 (pa), .int .i64 (pb), .int .i64 (pc), .int .i64 (pd), .int .i64 (pe), .int .i64 (pf)] 28)).alloc (.cells #[.int .i64 (0), .int .i64 (0), .int .i64 (0), .int .i64 (0), .int .i64 (0), .int .i64 (0)] 28)) = W0 at hB b0 b1 ⊢
  have c0 := b0.cell
  have f0 := b0.frozen
  have l0 := b0.lt
  have c1 := b1.cell
  have f1 := b1.frozen
  have l1 := b1.lt
  refine (within_any _ _ _ _).mono ?_
  rintro r w2 ⟨rfl, rfl⟩
  cases h1 : inB k 0 1000000
  · have HL := Lib.hid (exL_no h1)
    have HH := Lib.hid (exH_no h1)
    go_wp2
    exact bodyPost_ret (v := .agg #[.int .i64 (exL pa k), .int .i64 (exL pb k), .int .i64 (exL pc k), .int .i64 (exH pd k), .int .i64 (exH pe k), .int .i64 (exH pf k)]) (by simp [results, Try.results16, go_sem, c1, HL.out, HH.out]) rfl ⟨rfl, ((((((hB.setCell (by dsimp only; omega) _).setCell (by dsimp only; omega) _).setCell (by dsimp only; omega) _).setCell (by dsimp only; omega) _).setCell (by dsimp only; omega) _).setCell (by dsimp only; omega) _)⟩
  · have HL := Lib.hid (exL_yes h1)
    have HH := Lib.hid (exH_yes h1)
    clear h1
    go_wp2_with fail
    have d2_0 := b0.lt
    have d2_1 := b1.lt
    have g2 := hB.size
    replace b0 := b0.alloc (.cells #[.int .i64 (k), .int .i64 (k), .int .i64 (k)] 26)
    replace b1 := b1.alloc (.cells #[.int .i64 (k), .int .i64 (k), .int .i64 (k)] 26)
    have b2 := Blk.new W0 26 #[.int .i64 (k), .int .i64 (k), .int .i64 (k)]
    replace hB := hB.alloc hB.size (.cells #[.int .i64 (k), .int .i64 (k), .int .i64 (k)] 26)
    clear c0 f0 l0 c1 f1 l1
    generalize W0.heap.size = q2 at b2 g2 d2_0 d2_1 ⊢
    generalize W0.alloc (.cells #[.int .i64 (k), .int .i64 (k), .int .i64 (k)] 26) = W2 at hB b0 b1 b2 ⊢
    have c0 := b0.cell
    have f0 := b0.frozen
    have l0 := b0.lt
    have c1 := b1.cell
    have f1 := b1.frozen
    have l1 := b1.lt
    have c2 := b2.cell
    have f2 := b2.frozen
    have l2 := b2.lt
    go_region_held3 (fun w' => (∀ i, w'.cell? ⟨w.heap.size, i, none⟩ = (#[.int .i64 (pa), .int .i64 (pb), .int .i64 (pc), .int .i64 (pd), .int .i64 (pe), .int .i64 (pf)] : Array Value)[i]?) ∧ (∀ i, w'.cell? ⟨q2, i, none⟩ = (#[.int .i64 (k), .int .i64 (k), .int .i64 (k)] : Array Value)[i]?)) (first | with_reducible exact ⟨b0.cell, b2.cell⟩ | with_reducible exact ⟨b0.drew.cell, b2.drew.cell⟩ | with_reducible exact ⟨(b0.alloc _).cell, (b2.alloc _).cell⟩ | with_reducible exact ⟨(b0.alloc _).drew.cell, (b2.alloc _).drew.cell⟩ | with_reducible exact ⟨(b0.far6 (by omega) _ _ _ _ _ _).cell, (b2.far6 (by omega) _ _ _ _ _ _).cell⟩ | with_reducible exact ⟨(b0.far6 (by omega) _ _ _ _ _ _).drew.cell, (b2.far6 (by omega) _ _ _ _ _ _).drew.cell⟩)
      (first
        | (go_at_call 56; refine (subI _ _ _ _ _ _ _).mono ?_; rintro e w1 ⟨rfl, hb⟩; have hB := (by with_reducible first | exact b_keep hb hB | exact b_keep hb hB.drew); replace b0 : Blk w1 _ _ _ := (by with_reducible first | exact Blk.keep hb b0 | exact Blk.keep hb b0.drew); replace b1 : Blk w1 _ _ _ := (by with_reducible first | exact Blk.keep hb b1 | exact Blk.keep hb b1.drew); replace b2 : Blk w1 _ _ _ := (by with_reducible first | exact Blk.keep hb b2 | exact Blk.keep hb b2.drew); replace l0 := b0.lt; replace l1 := b1.lt; replace l2 := b2.lt; replace c0 := b0.cell; replace c1 := b1.cell; replace c2 := b2.cell; replace f0 := b0.frozen; replace f1 := b1.frozen; replace f2 := b2.frozen)
        | (go_at_call 50; refine (addI _ _ _ _ _ _ _).mono ?_; rintro e w1 ⟨rfl, hb⟩; have hB := (by with_reducible first | exact b_keep hb hB | exact b_keep hb hB.drew); replace b0 : Blk w1 _ _ _ := (by with_reducible first | exact Blk.keep hb b0 | exact Blk.keep hb b0.drew); replace b1 : Blk w1 _ _ _ := (by with_reducible first | exact Blk.keep hb b1 | exact Blk.keep hb b1.drew); replace b2 : Blk w1 _ _ _ := (by with_reducible first | exact Blk.keep hb b2 | exact Blk.keep hb b2.drew); replace l0 := b0.lt; replace l1 := b1.lt; replace l2 := b2.lt; replace c0 := b0.cell; replace c1 := b1.cell; replace c2 := b2.cell; replace f0 := b0.frozen; replace f1 := b1.frozen; replace f2 := b2.frozen))
    go_wp2
    exact bodyPost_ret (v := .agg #[.int .i64 (exL pa k), .int .i64 (exL pb k), .int .i64 (exL pc k), .int .i64 (exH pd k), .int .i64 (exH pe k), .int .i64 (exH pf k)]) (by simp [results, Try.results16, go_sem, c1, HL.out, HH.out]) rfl ⟨rfl, ((((((hB.setCell (by dsimp only; omega) _).setCell (by dsimp only; omega) _).setCell (by dsimp only; omega) _).setCell (by dsimp only; omega) _).setCell (by dsimp only; omega) _).setCell (by dsimp only; omega) _)⟩
set_option maxHeartbeats 2000000 in
theorem expandS (pa pb pc pd pe pf k : Int) (w : World) :
    Calls Try.prog 14 #[.agg #[.int .i64 (pa), .int .i64 (pb), .int .i64 (pc), .int .i64 (pd), .int .i64 (pe), .int .i64 (pf)], .int .i64 k] w fun r w' => r = .returned (.agg #[.int .i64 (exL pa k), .int .i64 (exL pb k), .int .i64 (exL pc k), .int .i64 (exH pd k), .int .i64 (exH pe k), .int .i64 (exH pf k)]) ∧ Below w.heap.size w w' := by
  have hB := below2 w (.cells #[.int .i64 (pa), .int .i64 (pb), .int .i64 (pc), .int .i64 (pd), .int .i64 (pe), .int .i64 (pf)] 28) (.cells #[.int .i64 (0), .int .i64 (0), .int .i64 (0), .int .i64 (0), .int .i64 (0), .int .i64 (0)] 28)
  obtain ⟨b0, b1⟩ := blk2 w #[.int .i64 (pa), .int .i64 (pb), .int .i64 (pc), .int .i64 (pd), .int .i64 (pe), .int .i64 (pf)] #[.int .i64 (0), .int .i64 (0), .int .i64 (0), .int .i64 (0), .int .i64 (0), .int .i64 (0)] 28 28
  go_enter Try.func14, Try.ntmps14
  go_wp2_with fail
  generalize ((w.alloc (.cells #[.int .i64 (pa), .int .i64 (pb), .int .i64 (pc), .int .i64 (pd), .int .i64 (pe), .int .i64 (pf)] 28)).alloc (.cells #[.int .i64 (0), .int .i64 (0), .int .i64 (0), .int .i64 (0), .int .i64 (0), .int .i64 (0)] 28)) = W0 at hB b0 b1 ⊢
  have c0 := b0.cell
  have f0 := b0.frozen
  have l0 := b0.lt
  have c1 := b1.cell
  have f1 := b1.frozen
  have l1 := b1.lt
  refine (l01In_any _ _ _ _).mono ?_
  rintro r w2 ⟨rfl, rfl⟩
  cases h1 : inB k 0 1000000
  · have HL := Lib.hid (exL_no h1)
    have HH := Lib.hid (exH_no h1)
    go_wp2
    exact bodyPost_ret (v := .agg #[.int .i64 (exL pa k), .int .i64 (exL pb k), .int .i64 (exL pc k), .int .i64 (exH pd k), .int .i64 (exH pe k), .int .i64 (exH pf k)]) (by simp [results, Try.results14, go_sem, c1, HL.out, HH.out]) rfl ⟨rfl, ((((((hB.setCell (by dsimp only; omega) _).setCell (by dsimp only; omega) _).setCell (by dsimp only; omega) _).setCell (by dsimp only; omega) _).setCell (by dsimp only; omega) _).setCell (by dsimp only; omega) _)⟩
  · have HL := Lib.hid (exL_yes h1)
    have HH := Lib.hid (exH_yes h1)
    clear h1
    go_wp2_with fail
    have d2_0 := b0.lt
    have d2_1 := b1.lt
    have g2 := hB.size
    replace b0 := b0.alloc (.cells #[.int .i64 (k), .int .i64 (k), .int .i64 (k)] 26)
    replace b1 := b1.alloc (.cells #[.int .i64 (k), .int .i64 (k), .int .i64 (k)] 26)
    have b2 := Blk.new W0 26 #[.int .i64 (k), .int .i64 (k), .int .i64 (k)]
    replace hB := hB.alloc hB.size (.cells #[.int .i64 (k), .int .i64 (k), .int .i64 (k)] 26)
    clear c0 f0 l0 c1 f1 l1
    generalize W0.heap.size = q2 at b2 g2 d2_0 d2_1 ⊢
    generalize W0.alloc (.cells #[.int .i64 (k), .int .i64 (k), .int .i64 (k)] 26) = W2 at hB b0 b1 b2 ⊢
    have c0 := b0.cell
    have f0 := b0.frozen
    have l0 := b0.lt
    have c1 := b1.cell
    have f1 := b1.frozen
    have l1 := b1.lt
    have c2 := b2.cell
    have f2 := b2.frozen
    have l2 := b2.lt
    go_region_held3 (fun w' => (∀ i, w'.cell? ⟨w.heap.size, i, none⟩ = (#[.int .i64 (pa), .int .i64 (pb), .int .i64 (pc), .int .i64 (pd), .int .i64 (pe), .int .i64 (pf)] : Array Value)[i]?) ∧ (∀ i, w'.cell? ⟨q2, i, none⟩ = (#[.int .i64 (k), .int .i64 (k), .int .i64 (k)] : Array Value)[i]?)) (first | with_reducible exact ⟨b0.cell, b2.cell⟩ | with_reducible exact ⟨b0.drew.cell, b2.drew.cell⟩ | with_reducible exact ⟨(b0.alloc _).cell, (b2.alloc _).cell⟩ | with_reducible exact ⟨(b0.alloc _).drew.cell, (b2.alloc _).drew.cell⟩ | with_reducible exact ⟨(b0.far6 (by omega) _ _ _ _ _ _).cell, (b2.far6 (by omega) _ _ _ _ _ _).cell⟩ | with_reducible exact ⟨(b0.far6 (by omega) _ _ _ _ _ _).drew.cell, (b2.far6 (by omega) _ _ _ _ _ _).drew.cell⟩)
      (first
        | (go_at_call 52; refine (subS _ _ _ _ _ _ _).mono ?_; rintro e w1 ⟨rfl, hb⟩; have hB := (by with_reducible first | exact b_keep hb hB | exact b_keep hb hB.drew); replace b0 : Blk w1 _ _ _ := (by with_reducible first | exact Blk.keep hb b0 | exact Blk.keep hb b0.drew); replace b1 : Blk w1 _ _ _ := (by with_reducible first | exact Blk.keep hb b1 | exact Blk.keep hb b1.drew); replace b2 : Blk w1 _ _ _ := (by with_reducible first | exact Blk.keep hb b2 | exact Blk.keep hb b2.drew); replace l0 := b0.lt; replace l1 := b1.lt; replace l2 := b2.lt; replace c0 := b0.cell; replace c1 := b1.cell; replace c2 := b2.cell; replace f0 := b0.frozen; replace f1 := b1.frozen; replace f2 := b2.frozen)
        | (go_at_call 53; refine (addS _ _ _ _ _ _ _).mono ?_; rintro e w1 ⟨rfl, hb⟩; have hB := (by with_reducible first | exact b_keep hb hB | exact b_keep hb hB.drew); replace b0 : Blk w1 _ _ _ := (by with_reducible first | exact Blk.keep hb b0 | exact Blk.keep hb b0.drew); replace b1 : Blk w1 _ _ _ := (by with_reducible first | exact Blk.keep hb b1 | exact Blk.keep hb b1.drew); replace b2 : Blk w1 _ _ _ := (by with_reducible first | exact Blk.keep hb b2 | exact Blk.keep hb b2.drew); replace l0 := b0.lt; replace l1 := b1.lt; replace l2 := b2.lt; replace c0 := b0.cell; replace c1 := b1.cell; replace c2 := b2.cell; replace f0 := b0.frozen; replace f1 := b1.frozen; replace f2 := b2.frozen))
    go_wp2
    exact bodyPost_ret (v := .agg #[.int .i64 (exL pa k), .int .i64 (exL pb k), .int .i64 (exL pc k), .int .i64 (exH pd k), .int .i64 (exH pe k), .int .i64 (exH pf k)]) (by simp [results, Try.results14, go_sem, c1, HL.out, HH.out]) rfl ⟨rfl, ((((((hB.setCell (by dsimp only; omega) _).setCell (by dsimp only; omega) _).setCell (by dsimp only; omega) _).setCell (by dsimp only; omega) _).setCell (by dsimp only; omega) _).setCell (by dsimp only; omega) _)⟩
end Go.Proofs.Ytobfccoljijnkaa
