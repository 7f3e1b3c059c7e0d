/- Two patches are compared: the equal ones. -/
import Derived.Test.YtnibknaemgpjdaaDoorPatP
import Derived.Test.YtnibknaemgpjdaaDoorTri
namespace Go.Proofs.YtnibknaemgpjdaaDoor
open Go Go.RowKit Go.Sort

theorem cells4_vat (us : List V3) {k : Nat} (hk : k < 4) : (cells4 us)[k * 3]? = some (.int .i64 (vat us k).1) ∧ (cells4 us)[k * 3 + 1]? = some (.int .i64 (vat us k).2.1) ∧ (cells4 us)[k * 3 + 2]? = some (.int .i64 (vat us k).2.2) := by
  rcases (by omega : k = 0 ∨ k = 1 ∨ k = 2 ∨ k = 3) with rfl | rfl | rfl | rfl <;> exact ⟨rfl, rfl, rfl⟩
theorem thr_vat {w : World} {g : Nat} {t : TypeId} {us : List V3} (h : Blk w g t (cells4 us)) {k : Nat} (hk : k < 4) : Thr w g (k * 3) (vat us k).1 (vat us k).2.1 (vat us k).2.2 := by
  obtain ⟨e0, e1, e2⟩ := cells4_vat us hk
  exact ⟨h.lt, (h.cell _).trans e0, (h.cell _).trans e1, (h.cell _).trans e2⟩
set_option maxHeartbeats 4000000 in
set_option maxRecDepth 100000 in
theorem eqVecA4_same (us : List V3) (w : World) :
    Calls Tryd.prog 44 #[.agg (cells4 us), .agg (cells4 us)] w fun r w' => r = .returned (.bool true) ∧ Below w.heap.size w w' := by
  have hB := below2 w (.cells (cells4 us) 24) (.cells (cells4 us) 24)
  obtain ⟨b0, b1⟩ := blk2 w (cells4 us) (cells4 us) 24 24
  have hsz : (cells4 us).size = 12 := rfl
  go_enter Tryd.func44, Tryd.ntmps44
  go_wp2
  generalize ((w.alloc (.cells (cells4 us) 24)).alloc (.cells (cells4 us) 24)) = W0 at hB b0 b1 ⊢
  have B0 := Lib.hid b0
  have B1 := Lib.hid b1
  have HB := Lib.hid hB
  clear b0 b1 hB hsz
  go_loopw [5] (fun j wr => ∃ k : Nat, k ≤ 4 ∧ j = .int .i64 k ∧ Blk wr w.heap.size 24 (cells4 us) ∧ Blk wr (w.heap.size + 1) 24 (cells4 us) ∧ Below w.heap.size w wr) (fun j _ => 4 - (intOf j).toNat)
  case atStart => exact ⟨0, by omega, rfl, B0.out, B1.out, HB.out⟩
  case round =>
    obtain ⟨k, hk, rfl, b0, b1, hB⟩ := hrel
    clear B0 B1 HB
    by_cases hlt : k < 4
    · have hT1 := thr_vat b0 hlt
      have hT2 := thr_vat b1 hlt
      have hk0 : (0 : Int) ≤ (k : Int) := by omega
      have hk1 : (k : Int) < 4 := by omega
      go_wp2_with fail
      go_region_held3 (fun w' => (w'.cell? ⟨w.heap.size, k * 3, none⟩ = some (.int .i64 (vat us k).1) ∧ w'.cell? ⟨w.heap.size, k * 3 + 1, none⟩ = some (.int .i64 (vat us k).2.1) ∧ w'.cell? ⟨w.heap.size, k * 3 + 2, none⟩ = some (.int .i64 (vat us k).2.2)) ∧ (w'.cell? ⟨w.heap.size + 1, k * 3, none⟩ = some (.int .i64 (vat us k).1) ∧ w'.cell? ⟨w.heap.size + 1, k * 3 + 1, none⟩ = some (.int .i64 (vat us k).2.1) ∧ w'.cell? ⟨w.heap.size + 1, k * 3 + 2, none⟩ = some (.int .i64 (vat us k).2.2)))
        (first | with_reducible exact ⟨hT1.cells, hT2.cells⟩ | with_reducible exact ⟨hT1.drew.cells, hT2.drew.cells⟩)
        (first
          | (go_at_call 50; refine (eqVec_same (vat us k).1 (vat us k).2.1 (vat us k).2.2 _).mono ?_; rintro e w1 ⟨rfl, hb⟩; replace hB := (by with_reducible first | exact b_keep hb hB | exact b_keep hb hB.drew); replace hT1 := (by with_reducible first | exact Thr.keep hb hT1 | exact Thr.keep hb hT1.drew); replace hT2 := (by with_reducible first | exact Thr.keep hb hT2 | exact Thr.keep hb hT2.drew); replace b0 : Blk w1 _ _ _ := (by with_reducible first | exact Blk.keep hb b0 | exact Blk.keep hb b0.drew); replace b1 : Blk w1 _ _ _ := (by with_reducible first | exact Blk.keep hb b1 | exact Blk.keep hb b1.drew)))
      go_wp2
      go_roundw
      case rel => exact ⟨k + 1, by omega, by go_num, b0, b1, hB⟩
      case measure => simp [intOf]; omega
    · have hk1 : ¬ ((k : Int) < 4) := by omega
      go_wp2
      go_ret
      exact ⟨rfl, hB⟩
set_option maxHeartbeats 4000000 in
set_option maxRecDepth 100000 in
theorem eqPatch_same (us : List V3) (w : World) :
    Calls Tryd.prog 10 #[.agg (cells4 us), .agg (cells4 us)] w fun r w' => r = .returned (.bool true) ∧ Below w.heap.size w w' := by
  have hB := below2 w (.cells (cells4 us) 26) (.cells (cells4 us) 26)
  obtain ⟨b0, b1⟩ := blk2 w (cells4 us) (cells4 us) 26 26
  have HC := Lib.hid (fun W => eqVecA4_same us W)
  unfold cells4 at hB b0 b1 HC ⊢
  go_enter Tryd.func10, Tryd.ntmps10
  go_wp2_with fail
  generalize World.alloc (World.alloc w _) _ = W0 at hB b0 b1 ⊢
  have c0 := b0.cell
  have f0 := b0.frozen
  have l0 := b0.lt
  have c1 := b1.cell
  have f1 := b1.frozen
  have l1 := b1.lt
  refine (HC.out _).mono ?_
  rintro e w1 ⟨rfl, hb⟩
  have hB := (by with_reducible first | exact b_keep hb hB | exact b_keep hb hB.drew)
  replace b0 : Blk w1 _ _ _ := (by with_reducible first | exact Blk.keep hb b0 | exact Blk.keep hb b0.drew)
  replace b1 : Blk w1 _ _ _ := (by with_reducible first | exact Blk.keep hb b1 | exact Blk.keep hb b1.drew)
  replace l0 := b0.lt
  replace l1 := b1.lt
  replace c0 := b0.cell
  replace c1 := b1.cell
  replace f0 := b0.frozen
  replace f1 := b1.frozen
  clear hb
  go_wp2
  go_ret
  exact ⟨rfl, hB⟩
end Go.Proofs.YtnibknaemgpjdaaDoor
