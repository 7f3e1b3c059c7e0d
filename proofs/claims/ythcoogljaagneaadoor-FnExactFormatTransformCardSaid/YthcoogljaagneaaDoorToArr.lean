/- The laws' own copies of arrays, of transforms and of patches. -/
import Derived.Test.YthcoogljaagneaaDoorVec2
import Derived.WalkSmall
namespace Go.Proofs.YthcoogljaagneaaDoor
open Go.RowKit

def out_toIntA9_any (m0 m1 m2 m3 m4 m5 m6 m7 m8 : Int) : Nat → Array Value
  | 0 => #[.int .i64 (0), .int .i64 (0), .int .i64 (0), .int .i64 (0), .int .i64 (0), .int .i64 (0), .int .i64 (0), .int .i64 (0), .int .i64 (0)]
  | 1 => #[.int .i64 (m0), .int .i64 (0), .int .i64 (0), .int .i64 (0), .int .i64 (0), .int .i64 (0), .int .i64 (0), .int .i64 (0), .int .i64 (0)]
  | 2 => #[.int .i64 (m0), .int .i64 (m1), .int .i64 (0), .int .i64 (0), .int .i64 (0), .int .i64 (0), .int .i64 (0), .int .i64 (0), .int .i64 (0)]
  | 3 => #[.int .i64 (m0), .int .i64 (m1), .int .i64 (m2), .int .i64 (0), .int .i64 (0), .int .i64 (0), .int .i64 (0), .int .i64 (0), .int .i64 (0)]
  | 4 => #[.int .i64 (m0), .int .i64 (m1), .int .i64 (m2), .int .i64 (m3), .int .i64 (0), .int .i64 (0), .int .i64 (0), .int .i64 (0), .int .i64 (0)]
  | 5 => #[.int .i64 (m0), .int .i64 (m1), .int .i64 (m2), .int .i64 (m3), .int .i64 (m4), .int .i64 (0), .int .i64 (0), .int .i64 (0), .int .i64 (0)]
  | 6 => #[.int .i64 (m0), .int .i64 (m1), .int .i64 (m2), .int .i64 (m3), .int .i64 (m4), .int .i64 (m5), .int .i64 (0), .int .i64 (0), .int .i64 (0)]
  | 7 => #[.int .i64 (m0), .int .i64 (m1), .int .i64 (m2), .int .i64 (m3), .int .i64 (m4), .int .i64 (m5), .int .i64 (m6), .int .i64 (0), .int .i64 (0)]
  | 8 => #[.int .i64 (m0), .int .i64 (m1), .int .i64 (m2), .int .i64 (m3), .int .i64 (m4), .int .i64 (m5), .int .i64 (m6), .int .i64 (m7), .int .i64 (0)]
  | _ => #[.int .i64 (m0), .int .i64 (m1), .int .i64 (m2), .int .i64 (m3), .int .i64 (m4), .int .i64 (m5), .int .i64 (m6), .int .i64 (m7), .int .i64 (m8)]
set_option maxHeartbeats 8000000 in
theorem toIntA9_any (m0 m1 m2 m3 m4 m5 m6 m7 m8 : Int) (w : World) :
    Calls Tryd.prog 48 #[.agg #[.int .i64 (m0), .int .i64 (m1), .int .i64 (m2), .int .i64 (m3), .int .i64 (m4), .int .i64 (m5), .int .i64 (m6), .int .i64 (m7), .int .i64 (m8)]] w fun e w' => e = .returned (.agg #[.int .i64 (m0), .int .i64 (m1), .int .i64 (m2), .int .i64 (m3), .int .i64 (m4), .int .i64 (m5), .int .i64 (m6), .int .i64 (m7), .int .i64 (m8)]) ∧ Below w.heap.size w w' := by
  have hB0 := below3 w (.cells #[.int .i64 (m0), .int .i64 (m1), .int .i64 (m2), .int .i64 (m3), .int .i64 (m4), .int .i64 (m5), .int .i64 (m6), .int .i64 (m7), .int .i64 (m8)] 42) (.cells #[.int .i64 (0), .int .i64 (0), .int .i64 (0), .int .i64 (0), .int .i64 (0), .int .i64 (0), .int .i64 (0), .int .i64 (0), .int .i64 (0)] 42) (.cells #[.int .i64 (0), .int .i64 (0), .int .i64 (0), .int .i64 (0), .int .i64 (0), .int .i64 (0), .int .i64 (0), .int .i64 (0), .int .i64 (0)] 42)
  obtain ⟨b00, b10, b20⟩ := blk3 w #[.int .i64 (m0), .int .i64 (m1), .int .i64 (m2), .int .i64 (m3), .int .i64 (m4), .int .i64 (m5), .int .i64 (m6), .int .i64 (m7), .int .i64 (m8)] #[.int .i64 (0), .int .i64 (0), .int .i64 (0), .int .i64 (0), .int .i64 (0), .int .i64 (0), .int .i64 (0), .int .i64 (0), .int .i64 (0)] #[.int .i64 (0), .int .i64 (0), .int .i64 (0), .int .i64 (0), .int .i64 (0), .int .i64 (0), .int .i64 (0), .int .i64 (0), .int .i64 (0)] 42 42 42
  go_enter Tryd.func48, Tryd.ntmps48
  go_wp2
  generalize (((w.alloc (.cells #[.int .i64 (m0), .int .i64 (m1), .int .i64 (m2), .int .i64 (m3), .int .i64 (m4), .int .i64 (m5), .int .i64 (m6), .int .i64 (m7), .int .i64 (m8)] 42)).alloc (.cells #[.int .i64 (0), .int .i64 (0), .int .i64 (0), .int .i64 (0), .int .i64 (0), .int .i64 (0), .int .i64 (0), .int .i64 (0), .int .i64 (0)] 42)).alloc (.cells #[.int .i64 (0), .int .i64 (0), .int .i64 (0), .int .i64 (0), .int .i64 (0), .int .i64 (0), .int .i64 (0), .int .i64 (0), .int .i64 (0)] 42)) = W0 at hB0 b00 b10 b20 ⊢
  go_loopw [4] (fun i wr => ∃ k : Nat, k ≤ 9 ∧ i = .int .i64 k ∧ Blk wr w.heap.size 42 #[.int .i64 (m0), .int .i64 (m1), .int .i64 (m2), .int .i64 (m3), .int .i64 (m4), .int .i64 (m5), .int .i64 (m6), .int .i64 (m7), .int .i64 (m8)] ∧ Blk wr (w.heap.size + 1) 42 #[.int .i64 (0), .int .i64 (0), .int .i64 (0), .int .i64 (0), .int .i64 (0), .int .i64 (0), .int .i64 (0), .int .i64 (0), .int .i64 (0)] ∧ Blk wr (w.heap.size + 1 + 1) 42 (out_toIntA9_any m0 m1 m2 m3 m4 m5 m6 m7 m8 k) ∧ Below w.heap.size w wr) (fun i _ => 9 - (intOf i).toNat)
  case atStart => exact ⟨0, by omega, rfl, b00, b10, b20, hB0⟩
  case round =>
    obtain ⟨k, hk, rfl, b0, b1, b2', hB⟩ := hrel
    clear b00 b10 b20 hB0
    rcases (by omega : k = 0 ∨ k = 1 ∨ k = 2 ∨ k = 3 ∨ k = 4 ∨ k = 5 ∨ k = 6 ∨ k = 7 ∨ k = 8 ∨ k = 9) with rfl | rfl | rfl | rfl | rfl | rfl | rfl | rfl | rfl | rfl
    · have b2 : Blk wr (w.heap.size + 1 + 1) 42 #[.int .i64 (0), .int .i64 (0), .int .i64 (0), .int .i64 (0), .int .i64 (0), .int .i64 (0), .int .i64 (0), .int .i64 (0), .int .i64 (0)] := b2'
      clear b2'
      have c0 := b0.cell
      have f0 := b0.frozen
      have l0 := b0.lt
      have c1 := b1.cell
      have f1 := b1.frozen
      have l1 := b1.lt
      have c2 := b2.cell
      have f2 := b2.frozen
      have l2 := b2.lt
      go_wp2
      go_roundw
      case rel => exact ⟨1, by omega, by go_num, (b0.far (p := ⟨w.heap.size + 1 + 1, 0, none⟩) (by dsimp only; omega) _), (b1.far (p := ⟨w.heap.size + 1 + 1, 0, none⟩) (by dsimp only; omega) _), (b2.set_ 0 _), (hB.setCell (by dsimp only; omega) _)⟩
      case measure => simp [intOf]
    · have b2 : Blk wr (w.heap.size + 1 + 1) 42 #[.int .i64 (m0), .int .i64 (0), .int .i64 (0), .int .i64 (0), .int .i64 (0), .int .i64 (0), .int .i64 (0), .int .i64 (0), .int .i64 (0)] := b2'
      clear b2'
      have c0 := b0.cell
      have f0 := b0.frozen
      have l0 := b0.lt
      have c1 := b1.cell
      have f1 := b1.frozen
      have l1 := b1.lt
      have c2 := b2.cell
      have f2 := b2.frozen
      have l2 := b2.lt
      go_wp2
      go_roundw
      case rel => exact ⟨2, by omega, by go_num, (b0.far (p := ⟨w.heap.size + 1 + 1, 1, none⟩) (by dsimp only; omega) _), (b1.far (p := ⟨w.heap.size + 1 + 1, 1, none⟩) (by dsimp only; omega) _), (b2.set_ 1 _), (hB.setCell (by dsimp only; omega) _)⟩
      case measure => simp [intOf]
    · have b2 : Blk wr (w.heap.size + 1 + 1) 42 #[.int .i64 (m0), .int .i64 (m1), .int .i64 (0), .int .i64 (0), .int .i64 (0), .int .i64 (0), .int .i64 (0), .int .i64 (0), .int .i64 (0)] := b2'
      clear b2'
      have c0 := b0.cell
      have f0 := b0.frozen
      have l0 := b0.lt
      have c1 := b1.cell
      have f1 := b1.frozen
      have l1 := b1.lt
      have c2 := b2.cell
      have f2 := b2.frozen
      have l2 := b2.lt
      go_wp2
      go_roundw
      case rel => exact ⟨3, by omega, by go_num, (b0.far (p := ⟨w.heap.size + 1 + 1, 2, none⟩) (by dsimp only; omega) _), (b1.far (p := ⟨w.heap.size + 1 + 1, 2, none⟩) (by dsimp only; omega) _), (b2.set_ 2 _), (hB.setCell (by dsimp only; omega) _)⟩
      case measure => simp [intOf]
    · have b2 : Blk wr (w.heap.size + 1 + 1) 42 #[.int .i64 (m0), .int .i64 (m1), .int .i64 (m2), .int .i64 (0), .int .i64 (0), .int .i64 (0), .int .i64 (0), .int .i64 (0), .int .i64 (0)] := b2'
      clear b2'
      have c0 := b0.cell
      have f0 := b0.frozen
      have l0 := b0.lt
      have c1 := b1.cell
      have f1 := b1.frozen
      have l1 := b1.lt
      have c2 := b2.cell
      have f2 := b2.frozen
      have l2 := b2.lt
      go_wp2
      go_roundw
      case rel => exact ⟨4, by omega, by go_num, (b0.far (p := ⟨w.heap.size + 1 + 1, 3, none⟩) (by dsimp only; omega) _), (b1.far (p := ⟨w.heap.size + 1 + 1, 3, none⟩) (by dsimp only; omega) _), (b2.set_ 3 _), (hB.setCell (by dsimp only; omega) _)⟩
      case measure => simp [intOf]
    · have b2 : Blk wr (w.heap.size + 1 + 1) 42 #[.int .i64 (m0), .int .i64 (m1), .int .i64 (m2), .int .i64 (m3), .int .i64 (0), .int .i64 (0), .int .i64 (0), .int .i64 (0), .int .i64 (0)] := b2'
      clear b2'
      have c0 := b0.cell
      have f0 := b0.frozen
      have l0 := b0.lt
      have c1 := b1.cell
      have f1 := b1.frozen
      have l1 := b1.lt
      have c2 := b2.cell
      have f2 := b2.frozen
      have l2 := b2.lt
      go_wp2
      go_roundw
      case rel => exact ⟨5, by omega, by go_num, (b0.far (p := ⟨w.heap.size + 1 + 1, 4, none⟩) (by dsimp only; omega) _), (b1.far (p := ⟨w.heap.size + 1 + 1, 4, none⟩) (by dsimp only; omega) _), (b2.set_ 4 _), (hB.setCell (by dsimp only; omega) _)⟩
      case measure => simp [intOf]
    · have b2 : Blk wr (w.heap.size + 1 + 1) 42 #[.int .i64 (m0), .int .i64 (m1), .int .i64 (m2), .int .i64 (m3), .int .i64 (m4), .int .i64 (0), .int .i64 (0), .int .i64 (0), .int .i64 (0)] := b2'
      clear b2'
      have c0 := b0.cell
      have f0 := b0.frozen
      have l0 := b0.lt
      have c1 := b1.cell
      have f1 := b1.frozen
      have l1 := b1.lt
      have c2 := b2.cell
      have f2 := b2.frozen
      have l2 := b2.lt
      go_wp2
      go_roundw
      case rel => exact ⟨6, by omega, by go_num, (b0.far (p := ⟨w.heap.size + 1 + 1, 5, none⟩) (by dsimp only; omega) _), (b1.far (p := ⟨w.heap.size + 1 + 1, 5, none⟩) (by dsimp only; omega) _), (b2.set_ 5 _), (hB.setCell (by dsimp only; omega) _)⟩
      case measure => simp [intOf]
    · have b2 : Blk wr (w.heap.size + 1 + 1) 42 #[.int .i64 (m0), .int .i64 (m1), .int .i64 (m2), .int .i64 (m3), .int .i64 (m4), .int .i64 (m5), .int .i64 (0), .int .i64 (0), .int .i64 (0)] := b2'
      clear b2'
      have c0 := b0.cell
      have f0 := b0.frozen
      have l0 := b0.lt
      have c1 := b1.cell
      have f1 := b1.frozen
      have l1 := b1.lt
      have c2 := b2.cell
      have f2 := b2.frozen
      have l2 := b2.lt
      go_wp2
      go_roundw
      case rel => exact ⟨7, by omega, by go_num, (b0.far (p := ⟨w.heap.size + 1 + 1, 6, none⟩) (by dsimp only; omega) _), (b1.far (p := ⟨w.heap.size + 1 + 1, 6, none⟩) (by dsimp only; omega) _), (b2.set_ 6 _), (hB.setCell (by dsimp only; omega) _)⟩
      case measure => simp [intOf]
    · have b2 : Blk wr (w.heap.size + 1 + 1) 42 #[.int .i64 (m0), .int .i64 (m1), .int .i64 (m2), .int .i64 (m3), .int .i64 (m4), .int .i64 (m5), .int .i64 (m6), .int .i64 (0), .int .i64 (0)] := b2'
      clear b2'
      have c0 := b0.cell
      have f0 := b0.frozen
      have l0 := b0.lt
      have c1 := b1.cell
      have f1 := b1.frozen
      have l1 := b1.lt
      have c2 := b2.cell
      have f2 := b2.frozen
      have l2 := b2.lt
      go_wp2
      go_roundw
      case rel => exact ⟨8, by omega, by go_num, (b0.far (p := ⟨w.heap.size + 1 + 1, 7, none⟩) (by dsimp only; omega) _), (b1.far (p := ⟨w.heap.size + 1 + 1, 7, none⟩) (by dsimp only; omega) _), (b2.set_ 7 _), (hB.setCell (by dsimp only; omega) _)⟩
      case measure => simp [intOf]
    · have b2 : Blk wr (w.heap.size + 1 + 1) 42 #[.int .i64 (m0), .int .i64 (m1), .int .i64 (m2), .int .i64 (m3), .int .i64 (m4), .int .i64 (m5), .int .i64 (m6), .int .i64 (m7), .int .i64 (0)] := b2'
      clear b2'
      have c0 := b0.cell
      have f0 := b0.frozen
      have l0 := b0.lt
      have c1 := b1.cell
      have f1 := b1.frozen
      have l1 := b1.lt
      have c2 := b2.cell
      have f2 := b2.frozen
      have l2 := b2.lt
      go_wp2
      go_roundw
      case rel => exact ⟨9, by omega, by go_num, (b0.far (p := ⟨w.heap.size + 1 + 1, 8, none⟩) (by dsimp only; omega) _), (b1.far (p := ⟨w.heap.size + 1 + 1, 8, none⟩) (by dsimp only; omega) _), (b2.set_ 8 _), (hB.setCell (by dsimp only; omega) _)⟩
      case measure => simp [intOf]
    · have b2 : Blk wr (w.heap.size + 1 + 1) 42 #[.int .i64 (m0), .int .i64 (m1), .int .i64 (m2), .int .i64 (m3), .int .i64 (m4), .int .i64 (m5), .int .i64 (m6), .int .i64 (m7), .int .i64 (m8)] := b2'
      clear b2'
      have c0 := b0.cell
      have f0 := b0.frozen
      have l0 := b0.lt
      have c1 := b1.cell
      have f1 := b1.frozen
      have l1 := b1.lt
      have c2 := b2.cell
      have f2 := b2.frozen
      have l2 := b2.lt
      go_wp2
      exact bodyPost_ret (v := .agg #[.int .i64 (m0), .int .i64 (m1), .int .i64 (m2), .int .i64 (m3), .int .i64 (m4), .int .i64 (m5), .int .i64 (m6), .int .i64 (m7), .int .i64 (m8)]) (by simp [results, Tryd.results48, go_sem, c1]) rfl ⟨rfl, (((((((((hB.setCell (by dsimp only; omega) _).setCell (by dsimp only; omega) _).setCell (by dsimp only; omega) _).setCell (by dsimp only; omega) _).setCell (by dsimp only; omega) _).setCell (by dsimp only; omega) _).setCell (by dsimp only; omega) _).setCell (by dsimp only; omega) _).setCell (by dsimp only; omega) _)⟩
def out_toVecA4_any (p0 p1 p2 p3 p4 p5 p6 p7 p8 p9 p10 p11 : Int) : Nat → Array Value
  | 0 => #[.int .i64 (0), .int .i64 (0), .int .i64 (0), .int .i64 (0), .int .i64 (0), .int .i64 (0), .int .i64 (0), .int .i64 (0), .int .i64 (0), .int .i64 (0), .int .i64 (0), .int .i64 (0)]
  | 1 => #[.int .i64 (p0), .int .i64 (p1), .int .i64 (p2), .int .i64 (0), .int .i64 (0), .int .i64 (0), .int .i64 (0), .int .i64 (0), .int .i64 (0), .int .i64 (0), .int .i64 (0), .int .i64 (0)]
  | 2 => #[.int .i64 (p0), .int .i64 (p1), .int .i64 (p2), .int .i64 (p3), .int .i64 (p4), .int .i64 (p5), .int .i64 (0), .int .i64 (0), .int .i64 (0), .int .i64 (0), .int .i64 (0), .int .i64 (0)]
  | 3 => #[.int .i64 (p0), .int .i64 (p1), .int .i64 (p2), .int .i64 (p3), .int .i64 (p4), .int .i64 (p5), .int .i64 (p6), .int .i64 (p7), .int .i64 (p8), .int .i64 (0), .int .i64 (0), .int .i64 (0)]
  | _ => #[.int .i64 (p0), .int .i64 (p1), .int .i64 (p2), .int .i64 (p3), .int .i64 (p4), .int .i64 (p5), .int .i64 (p6), .int .i64 (p7), .int .i64 (p8), .int .i64 (p9), .int .i64 (p10), .int .i64 (p11)]
set_option maxHeartbeats 8000000 in
theorem toVecA4_any (p0 p1 p2 p3 p4 p5 p6 p7 p8 p9 p10 p11 : Int) (w : World) :
    Calls Tryd.prog 51 #[.agg #[.int .i64 (p0), .int .i64 (p1), .int .i64 (p2), .int .i64 (p3), .int .i64 (p4), .int .i64 (p5), .int .i64 (p6), .int .i64 (p7), .int .i64 (p8), .int .i64 (p9), .int .i64 (p10), .int .i64 (p11)]] w fun e w' => e = .returned (.agg #[.int .i64 (p0), .int .i64 (p1), .int .i64 (p2), .int .i64 (p3), .int .i64 (p4), .int .i64 (p5), .int .i64 (p6), .int .i64 (p7), .int .i64 (p8), .int .i64 (p9), .int .i64 (p10), .int .i64 (p11)]) ∧ Below w.heap.size w w' := by
  have hB0 := below3 w (.cells #[.int .i64 (p0), .int .i64 (p1), .int .i64 (p2), .int .i64 (p3), .int .i64 (p4), .int .i64 (p5), .int .i64 (p6), .int .i64 (p7), .int .i64 (p8), .int .i64 (p9), .int .i64 (p10), .int .i64 (p11)] 50) (.cells #[.int .i64 (0), .int .i64 (0), .int .i64 (0), .int .i64 (0), .int .i64 (0), .int .i64 (0), .int .i64 (0), .int .i64 (0), .int .i64 (0), .int .i64 (0), .int .i64 (0), .int .i64 (0)] 54) (.cells #[.int .i64 (0), .int .i64 (0), .int .i64 (0), .int .i64 (0), .int .i64 (0), .int .i64 (0), .int .i64 (0), .int .i64 (0), .int .i64 (0), .int .i64 (0), .int .i64 (0), .int .i64 (0)] 54)
  obtain ⟨b00, b10, b20⟩ := blk3 w #[.int .i64 (p0), .int .i64 (p1), .int .i64 (p2), .int .i64 (p3), .int .i64 (p4), .int .i64 (p5), .int .i64 (p6), .int .i64 (p7), .int .i64 (p8), .int .i64 (p9), .int .i64 (p10), .int .i64 (p11)] #[.int .i64 (0), .int .i64 (0), .int .i64 (0), .int .i64 (0), .int .i64 (0), .int .i64 (0), .int .i64 (0), .int .i64 (0), .int .i64 (0), .int .i64 (0), .int .i64 (0), .int .i64 (0)] #[.int .i64 (0), .int .i64 (0), .int .i64 (0), .int .i64 (0), .int .i64 (0), .int .i64 (0), .int .i64 (0), .int .i64 (0), .int .i64 (0), .int .i64 (0), .int .i64 (0), .int .i64 (0)] 50 54 54
  go_enter Tryd.func51, Tryd.ntmps51
  go_wp2
  generalize (((w.alloc (.cells #[.int .i64 (p0), .int .i64 (p1), .int .i64 (p2), .int .i64 (p3), .int .i64 (p4), .int .i64 (p5), .int .i64 (p6), .int .i64 (p7), .int .i64 (p8), .int .i64 (p9), .int .i64 (p10), .int .i64 (p11)] 50)).alloc (.cells #[.int .i64 (0), .int .i64 (0), .int .i64 (0), .int .i64 (0), .int .i64 (0), .int .i64 (0), .int .i64 (0), .int .i64 (0), .int .i64 (0), .int .i64 (0), .int .i64 (0), .int .i64 (0)] 54)).alloc (.cells #[.int .i64 (0), .int .i64 (0), .int .i64 (0), .int .i64 (0), .int .i64 (0), .int .i64 (0), .int .i64 (0), .int .i64 (0), .int .i64 (0), .int .i64 (0), .int .i64 (0), .int .i64 (0)] 54)) = W0 at hB0 b00 b10 b20 ⊢
  go_loopw [4] (fun i wr => ∃ k : Nat, k ≤ 4 ∧ i = .int .i64 k ∧ Blk wr w.heap.size 50 #[.int .i64 (p0), .int .i64 (p1), .int .i64 (p2), .int .i64 (p3), .int .i64 (p4), .int .i64 (p5), .int .i64 (p6), .int .i64 (p7), .int .i64 (p8), .int .i64 (p9), .int .i64 (p10), .int .i64 (p11)] ∧ Blk wr (w.heap.size + 1) 54 #[.int .i64 (0), .int .i64 (0), .int .i64 (0), .int .i64 (0), .int .i64 (0), .int .i64 (0), .int .i64 (0), .int .i64 (0), .int .i64 (0), .int .i64 (0), .int .i64 (0), .int .i64 (0)] ∧ Blk wr (w.heap.size + 1 + 1) 54 (out_toVecA4_any p0 p1 p2 p3 p4 p5 p6 p7 p8 p9 p10 p11 k) ∧ Below w.heap.size w wr) (fun i _ => 4 - (intOf i).toNat)
  case atStart => exact ⟨0, by omega, rfl, b00, b10, b20, hB0⟩
  case round =>
    obtain ⟨k, hk, rfl, b0, b1, b2', hB⟩ := hrel
    clear b00 b10 b20 hB0
    rcases (by omega : k = 0 ∨ k = 1 ∨ k = 2 ∨ k = 3 ∨ k = 4) with rfl | rfl | rfl | rfl | rfl
    · have b2 : Blk wr (w.heap.size + 1 + 1) 54 #[.int .i64 (0), .int .i64 (0), .int .i64 (0), .int .i64 (0), .int .i64 (0), .int .i64 (0), .int .i64 (0), .int .i64 (0), .int .i64 (0), .int .i64 (0), .int .i64 (0), .int .i64 (0)] := b2'
      clear b2'
      have c0 := b0.cell
      have f0 := b0.frozen
      have l0 := b0.lt
      have c1 := b1.cell
      have f1 := b1.frozen
      have l1 := b1.lt
      have c2 := b2.cell
      have f2 := b2.frozen
      have l2 := b2.lt
      go_wp2_with fail
      refine (toVec_any _ _ _ _).mono ?_
      rintro e w1 ⟨rfl, hb⟩
      have hB := (by with_reducible first | exact b_keep hb hB | exact b_keep hb hB.drew)
      replace b0 : Blk w1 _ _ _ := (by with_reducible first | exact Blk.keep hb b0 | exact Blk.keep hb b0.drew)
      replace b1 : Blk w1 _ _ _ := (by with_reducible first | exact Blk.keep hb b1 | exact Blk.keep hb b1.drew)
      replace b2 : Blk w1 _ _ _ := (by with_reducible first | exact Blk.keep hb b2 | exact Blk.keep hb b2.drew)
      replace l0 := b0.lt
      replace l1 := b1.lt
      replace l2 := b2.lt
      replace c0 := b0.cell
      replace c1 := b1.cell
      replace c2 := b2.cell
      replace f0 := b0.frozen
      replace f1 := b1.frozen
      replace f2 := b2.frozen
      clear hb
      go_wp2
      go_roundw
      case rel => exact ⟨1, by omega, by go_num, (((b0.far (p := ⟨w.heap.size + 1 + 1, 0, none⟩) (by dsimp only; omega) _).far (p := ⟨w.heap.size + 1 + 1, 1, none⟩) (by dsimp only; omega) _).far (p := ⟨w.heap.size + 1 + 1, 2, none⟩) (by dsimp only; omega) _), (((b1.far (p := ⟨w.heap.size + 1 + 1, 0, none⟩) (by dsimp only; omega) _).far (p := ⟨w.heap.size + 1 + 1, 1, none⟩) (by dsimp only; omega) _).far (p := ⟨w.heap.size + 1 + 1, 2, none⟩) (by dsimp only; omega) _), (((b2.set_ 0 _).set_ 1 _).set_ 2 _), (((hB.setCell (by dsimp only; omega) _).setCell (by dsimp only; omega) _).setCell (by dsimp only; omega) _)⟩
      case measure => simp [intOf]
    · have b2 : Blk wr (w.heap.size + 1 + 1) 54 #[.int .i64 (p0), .int .i64 (p1), .int .i64 (p2), .int .i64 (0), .int .i64 (0), .int .i64 (0), .int .i64 (0), .int .i64 (0), .int .i64 (0), .int .i64 (0), .int .i64 (0), .int .i64 (0)] := b2'
      clear b2'
      have c0 := b0.cell
      have f0 := b0.frozen
      have l0 := b0.lt
      have c1 := b1.cell
      have f1 := b1.frozen
      have l1 := b1.lt
      have c2 := b2.cell
      have f2 := b2.frozen
      have l2 := b2.lt
      go_wp2_with fail
      refine (toVec_any _ _ _ _).mono ?_
      rintro e w1 ⟨rfl, hb⟩
      have hB := (by with_reducible first | exact b_keep hb hB | exact b_keep hb hB.drew)
      replace b0 : Blk w1 _ _ _ := (by with_reducible first | exact Blk.keep hb b0 | exact Blk.keep hb b0.drew)
      replace b1 : Blk w1 _ _ _ := (by with_reducible first | exact Blk.keep hb b1 | exact Blk.keep hb b1.drew)
      replace b2 : Blk w1 _ _ _ := (by with_reducible first | exact Blk.keep hb b2 | exact Blk.keep hb b2.drew)
      replace l0 := b0.lt
      replace l1 := b1.lt
      replace l2 := b2.lt
      replace c0 := b0.cell
      replace c1 := b1.cell
      replace c2 := b2.cell
      replace f0 := b0.frozen
      replace f1 := b1.frozen
      replace f2 := b2.frozen
      clear hb
      go_wp2
      go_roundw
      case rel => exact ⟨2, by omega, by go_num, (((b0.far (p := ⟨w.heap.size + 1 + 1, 3, none⟩) (by dsimp only; omega) _).far (p := ⟨w.heap.size + 1 + 1, 4, none⟩) (by dsimp only; omega) _).far (p := ⟨w.heap.size + 1 + 1, 5, none⟩) (by dsimp only; omega) _), (((b1.far (p := ⟨w.heap.size + 1 + 1, 3, none⟩) (by dsimp only; omega) _).far (p := ⟨w.heap.size + 1 + 1, 4, none⟩) (by dsimp only; omega) _).far (p := ⟨w.heap.size + 1 + 1, 5, none⟩) (by dsimp only; omega) _), (((b2.set_ 3 _).set_ 4 _).set_ 5 _), (((hB.setCell (by dsimp only; omega) _).setCell (by dsimp only; omega) _).setCell (by dsimp only; omega) _)⟩
      case measure => simp [intOf]
    · have b2 : Blk wr (w.heap.size + 1 + 1) 54 #[.int .i64 (p0), .int .i64 (p1), .int .i64 (p2), .int .i64 (p3), .int .i64 (p4), .int .i64 (p5), .int .i64 (0), .int .i64 (0), .int .i64 (0), .int .i64 (0), .int .i64 (0), .int .i64 (0)] := b2'
      clear b2'
      have c0 := b0.cell
      have f0 := b0.frozen
      have l0 := b0.lt
      have c1 := b1.cell
      have f1 := b1.frozen
      have l1 := b1.lt
      have c2 := b2.cell
      have f2 := b2.frozen
      have l2 := b2.lt
      go_wp2_with fail
      refine (toVec_any _ _ _ _).mono ?_
      rintro e w1 ⟨rfl, hb⟩
      have hB := (by with_reducible first | exact b_keep hb hB | exact b_keep hb hB.drew)
      replace b0 : Blk w1 _ _ _ := (by with_reducible first | exact Blk.keep hb b0 | exact Blk.keep hb b0.drew)
      replace b1 : Blk w1 _ _ _ := (by with_reducible first | exact Blk.keep hb b1 | exact Blk.keep hb b1.drew)
      replace b2 : Blk w1 _ _ _ := (by with_reducible first | exact Blk.keep hb b2 | exact Blk.keep hb b2.drew)
      replace l0 := b0.lt
      replace l1 := b1.lt
      replace l2 := b2.lt
      replace c0 := b0.cell
      replace c1 := b1.cell
      replace c2 := b2.cell
      replace f0 := b0.frozen
      replace f1 := b1.frozen
      replace f2 := b2.frozen
      clear hb
      go_wp2
      go_roundw
      case rel => exact ⟨3, by omega, by go_num, (((b0.far (p := ⟨w.heap.size + 1 + 1, 6, none⟩) (by dsimp only; omega) _).far (p := ⟨w.heap.size + 1 + 1, 7, none⟩) (by dsimp only; omega) _).far (p := ⟨w.heap.size + 1 + 1, 8, none⟩) (by dsimp only; omega) _), (((b1.far (p := ⟨w.heap.size + 1 + 1, 6, none⟩) (by dsimp only; omega) _).far (p := ⟨w.heap.size + 1 + 1, 7, none⟩) (by dsimp only; omega) _).far (p := ⟨w.heap.size + 1 + 1, 8, none⟩) (by dsimp only; omega) _), (((b2.set_ 6 _).set_ 7 _).set_ 8 _), (((hB.setCell (by dsimp only; omega) _).setCell (by dsimp only; omega) _).setCell (by dsimp only; omega) _)⟩
      case measure => simp [intOf]
    · have b2 : Blk wr (w.heap.size + 1 + 1) 54 #[.int .i64 (p0), .int .i64 (p1), .int .i64 (p2), .int .i64 (p3), .int .i64 (p4), .int .i64 (p5), .int .i64 (p6), .int .i64 (p7), .int .i64 (p8), .int .i64 (0), .int .i64 (0), .int .i64 (0)] := b2'
      clear b2'
      have c0 := b0.cell
      have f0 := b0.frozen
      have l0 := b0.lt
      have c1 := b1.cell
      have f1 := b1.frozen
      have l1 := b1.lt
      have c2 := b2.cell
      have f2 := b2.frozen
      have l2 := b2.lt
      go_wp2_with fail
      refine (toVec_any _ _ _ _).mono ?_
      rintro e w1 ⟨rfl, hb⟩
      have hB := (by with_reducible first | exact b_keep hb hB | exact b_keep hb hB.drew)
      replace b0 : Blk w1 _ _ _ := (by with_reducible first | exact Blk.keep hb b0 | exact Blk.keep hb b0.drew)
      replace b1 : Blk w1 _ _ _ := (by with_reducible first | exact Blk.keep hb b1 | exact Blk.keep hb b1.drew)
      replace b2 : Blk w1 _ _ _ := (by with_reducible first | exact Blk.keep hb b2 | exact Blk.keep hb b2.drew)
      replace l0 := b0.lt
      replace l1 := b1.lt
      replace l2 := b2.lt
      replace c0 := b0.cell
      replace c1 := b1.cell
      replace c2 := b2.cell
      replace f0 := b0.frozen
      replace f1 := b1.frozen
      replace f2 := b2.frozen
      clear hb
      go_wp2
      go_roundw
      case rel => exact ⟨4, by omega, by go_num, (((b0.far (p := ⟨w.heap.size + 1 + 1, 9, none⟩) (by dsimp only; omega) _).far (p := ⟨w.heap.size + 1 + 1, 10, none⟩) (by dsimp only; omega) _).far (p := ⟨w.heap.size + 1 + 1, 11, none⟩) (by dsimp only; omega) _), (((b1.far (p := ⟨w.heap.size + 1 + 1, 9, none⟩) (by dsimp only; omega) _).far (p := ⟨w.heap.size + 1 + 1, 10, none⟩) (by dsimp only; omega) _).far (p := ⟨w.heap.size + 1 + 1, 11, none⟩) (by dsimp only; omega) _), (((b2.set_ 9 _).set_ 10 _).set_ 11 _), (((hB.setCell (by dsimp only; omega) _).setCell (by dsimp only; omega) _).setCell (by dsimp only; omega) _)⟩
      case measure => simp [intOf]
    · have b2 : Blk wr (w.heap.size + 1 + 1) 54 #[.int .i64 (p0), .int .i64 (p1), .int .i64 (p2), .int .i64 (p3), .int .i64 (p4), .int .i64 (p5), .int .i64 (p6), .int .i64 (p7), .int .i64 (p8), .int .i64 (p9), .int .i64 (p10), .int .i64 (p11)] := b2'
      clear b2'
      have c0 := b0.cell
      have f0 := b0.frozen
      have l0 := b0.lt
      have c1 := b1.cell
      have f1 := b1.frozen
      have l1 := b1.lt
      have c2 := b2.cell
      have f2 := b2.frozen
      have l2 := b2.lt
      go_wp2
      exact bodyPost_ret (v := .agg #[.int .i64 (p0), .int .i64 (p1), .int .i64 (p2), .int .i64 (p3), .int .i64 (p4), .int .i64 (p5), .int .i64 (p6), .int .i64 (p7), .int .i64 (p8), .int .i64 (p9), .int .i64 (p10), .int .i64 (p11)]) (by simp [results, Tryd.results51, go_sem, c1]) rfl ⟨rfl, ((((((((((((hB.setCell (by dsimp only; omega) _).setCell (by dsimp only; omega) _).setCell (by dsimp only; omega) _).setCell (by dsimp only; omega) _).setCell (by dsimp only; omega) _).setCell (by dsimp only; omega) _).setCell (by dsimp only; omega) _).setCell (by dsimp only; omega) _).setCell (by dsimp only; omega) _).setCell (by dsimp only; omega) _).setCell (by dsimp only; omega) _).setCell (by dsimp only; omega) _)⟩
set_option maxHeartbeats 8000000 in
theorem toTransform_any (m0 m1 m2 m3 m4 m5 m6 m7 m8 x y z : Int) (w : World) :
    Calls Tryd.prog 25 #[.agg #[.int .i64 (m0), .int .i64 (m1), .int .i64 (m2), .int .i64 (m3), .int .i64 (m4), .int .i64 (m5), .int .i64 (m6), .int .i64 (m7), .int .i64 (m8), .int .i64 (x), .int .i64 (y), .int .i64 (z)]] w fun e w' => e = .returned (.agg #[.int .i64 (m0), .int .i64 (m1), .int .i64 (m2), .int .i64 (m3), .int .i64 (m4), .int .i64 (m5), .int .i64 (m6), .int .i64 (m7), .int .i64 (m8), .int .i64 (x), .int .i64 (y), .int .i64 (z)]) ∧ Below w.heap.size w w' := by
  have hB := below3 w (.cells #[.int .i64 (m0), .int .i64 (m1), .int .i64 (m2), .int .i64 (m3), .int .i64 (m4), .int .i64 (m5), .int .i64 (m6), .int .i64 (m7), .int .i64 (m8), .int .i64 (x), .int .i64 (y), .int .i64 (z)] 44) (.cells #[.int .i64 (0), .int .i64 (0), .int .i64 (0), .int .i64 (0), .int .i64 (0), .int .i64 (0), .int .i64 (0), .int .i64 (0), .int .i64 (0), .int .i64 (0), .int .i64 (0), .int .i64 (0)] 47) (.cells #[.int .i64 (0), .int .i64 (0), .int .i64 (0), .int .i64 (0), .int .i64 (0), .int .i64 (0), .int .i64 (0), .int .i64 (0), .int .i64 (0), .int .i64 (0), .int .i64 (0), .int .i64 (0)] 47)
  obtain ⟨b0, b1, b2⟩ := blk3 w #[.int .i64 (m0), .int .i64 (m1), .int .i64 (m2), .int .i64 (m3), .int .i64 (m4), .int .i64 (m5), .int .i64 (m6), .int .i64 (m7), .int .i64 (m8), .int .i64 (x), .int .i64 (y), .int .i64 (z)] #[.int .i64 (0), .int .i64 (0), .int .i64 (0), .int .i64 (0), .int .i64 (0), .int .i64 (0), .int .i64 (0), .int .i64 (0), .int .i64 (0), .int .i64 (0), .int .i64 (0), .int .i64 (0)] #[.int .i64 (0), .int .i64 (0), .int .i64 (0), .int .i64 (0), .int .i64 (0), .int .i64 (0), .int .i64 (0), .int .i64 (0), .int .i64 (0), .int .i64 (0), .int .i64 (0), .int .i64 (0)] 44 47 47
  go_enter Tryd.func25, Tryd.ntmps25
  go_wp2_with fail
  generalize (((w.alloc (.cells #[.int .i64 (m0), .int .i64 (m1), .int .i64 (m2), .int .i64 (m3), .int .i64 (m4), .int .i64 (m5), .int .i64 (m6), .int .i64 (m7), .int .i64 (m8), .int .i64 (x), .int .i64 (y), .int .i64 (z)] 44)).alloc (.cells #[.int .i64 (0), .int .i64 (0), .int .i64 (0), .int .i64 (0), .int .i64 (0), .int .i64 (0), .int .i64 (0), .int .i64 (0), .int .i64 (0), .int .i64 (0), .int .i64 (0), .int .i64 (0)] 47)).alloc (.cells #[.int .i64 (0), .int .i64 (0), .int .i64 (0), .int .i64 (0), .int .i64 (0), .int .i64 (0), .int .i64 (0), .int .i64 (0), .int .i64 (0), .int .i64 (0), .int .i64 (0), .int .i64 (0)] 47)) = W0 at hB b0 b1 b2 ⊢
  have c0 := b0.cell
  have f0 := b0.frozen
  have l0 := b0.lt
  have c1 := b1.cell
  have f1 := b1.frozen
  have l1 := b1.lt
  have c2 := b2.cell
  have f2 := b2.frozen
  have l2 := b2.lt
  refine (toIntA9_any _ _ _ _ _ _ _ _ _ _).mono ?_
  rintro e w1 ⟨rfl, hb⟩
  have hB := (by with_reducible first | exact b_keep hb hB | exact b_keep hb hB.drew)
  replace b0 : Blk w1 _ _ _ := (by with_reducible first | exact Blk.keep hb b0 | exact Blk.keep hb b0.drew)
  replace b1 : Blk w1 _ _ _ := (by with_reducible first | exact Blk.keep hb b1 | exact Blk.keep hb b1.drew)
  replace b2 : Blk w1 _ _ _ := (by with_reducible first | exact Blk.keep hb b2 | exact Blk.keep hb b2.drew)
  replace l0 := b0.lt
  replace l1 := b1.lt
  replace l2 := b2.lt
  replace c0 := b0.cell
  replace c1 := b1.cell
  replace c2 := b2.cell
  replace f0 := b0.frozen
  replace f1 := b1.frozen
  replace f2 := b2.frozen
  clear hb
  go_wp2_with fail
  replace hB := (((((((((hB.setCell (p := ⟨w.heap.size + 1 + 1, 0, none⟩) (by dsimp only; omega) (.int .i64 m0)).setCell (p := ⟨w.heap.size + 1 + 1, 1, none⟩) (by dsimp only; omega) (.int .i64 m1)).setCell (p := ⟨w.heap.size + 1 + 1, 2, none⟩) (by dsimp only; omega) (.int .i64 m2)).setCell (p := ⟨w.heap.size + 1 + 1, 3, none⟩) (by dsimp only; omega) (.int .i64 m3)).setCell (p := ⟨w.heap.size + 1 + 1, 4, none⟩) (by dsimp only; omega) (.int .i64 m4)).setCell (p := ⟨w.heap.size + 1 + 1, 5, none⟩) (by dsimp only; omega) (.int .i64 m5)).setCell (p := ⟨w.heap.size + 1 + 1, 6, none⟩) (by dsimp only; omega) (.int .i64 m6)).setCell (p := ⟨w.heap.size + 1 + 1, 7, none⟩) (by dsimp only; omega) (.int .i64 m7)).setCell (p := ⟨w.heap.size + 1 + 1, 8, none⟩) (by dsimp only; omega) (.int .i64 m8))
  replace b0 := (((((((((b0.far (p := ⟨w.heap.size + 1 + 1, 0, none⟩) (by dsimp only; omega) (.int .i64 m0)).far (p := ⟨w.heap.size + 1 + 1, 1, none⟩) (by dsimp only; omega) (.int .i64 m1)).far (p := ⟨w.heap.size + 1 + 1, 2, none⟩) (by dsimp only; omega) (.int .i64 m2)).far (p := ⟨w.heap.size + 1 + 1, 3, none⟩) (by dsimp only; omega) (.int .i64 m3)).far (p := ⟨w.heap.size + 1 + 1, 4, none⟩) (by dsimp only; omega) (.int .i64 m4)).far (p := ⟨w.heap.size + 1 + 1, 5, none⟩) (by dsimp only; omega) (.int .i64 m5)).far (p := ⟨w.heap.size + 1 + 1, 6, none⟩) (by dsimp only; omega) (.int .i64 m6)).far (p := ⟨w.heap.size + 1 + 1, 7, none⟩) (by dsimp only; omega) (.int .i64 m7)).far (p := ⟨w.heap.size + 1 + 1, 8, none⟩) (by dsimp only; omega) (.int .i64 m8))
  replace b1 := (((((((((b1.far (p := ⟨w.heap.size + 1 + 1, 0, none⟩) (by dsimp only; omega) (.int .i64 m0)).far (p := ⟨w.heap.size + 1 + 1, 1, none⟩) (by dsimp only; omega) (.int .i64 m1)).far (p := ⟨w.heap.size + 1 + 1, 2, none⟩) (by dsimp only; omega) (.int .i64 m2)).far (p := ⟨w.heap.size + 1 + 1, 3, none⟩) (by dsimp only; omega) (.int .i64 m3)).far (p := ⟨w.heap.size + 1 + 1, 4, none⟩) (by dsimp only; omega) (.int .i64 m4)).far (p := ⟨w.heap.size + 1 + 1, 5, none⟩) (by dsimp only; omega) (.int .i64 m5)).far (p := ⟨w.heap.size + 1 + 1, 6, none⟩) (by dsimp only; omega) (.int .i64 m6)).far (p := ⟨w.heap.size + 1 + 1, 7, none⟩) (by dsimp only; omega) (.int .i64 m7)).far (p := ⟨w.heap.size + 1 + 1, 8, none⟩) (by dsimp only; omega) (.int .i64 m8))
  have b2' : Blk (((((((((w1.setCell ⟨w.heap.size + 1 + 1, 0, none⟩ (.int .i64 m0)).setCell ⟨w.heap.size + 1 + 1, 1, none⟩ (.int .i64 m1)).setCell ⟨w.heap.size + 1 + 1, 2, none⟩ (.int .i64 m2)).setCell ⟨w.heap.size + 1 + 1, 3, none⟩ (.int .i64 m3)).setCell ⟨w.heap.size + 1 + 1, 4, none⟩ (.int .i64 m4)).setCell ⟨w.heap.size + 1 + 1, 5, none⟩ (.int .i64 m5)).setCell ⟨w.heap.size + 1 + 1, 6, none⟩ (.int .i64 m6)).setCell ⟨w.heap.size + 1 + 1, 7, none⟩ (.int .i64 m7)).setCell ⟨w.heap.size + 1 + 1, 8, none⟩ (.int .i64 m8)) (w.heap.size + 1 + 1) 47 #[.int .i64 (m0), .int .i64 (m1), .int .i64 (m2), .int .i64 (m3), .int .i64 (m4), .int .i64 (m5), .int .i64 (m6), .int .i64 (m7), .int .i64 (m8), .int .i64 (0), .int .i64 (0), .int .i64 (0)] := (((((((((b2.set_ 0 (.int .i64 m0)).set_ 1 (.int .i64 m1)).set_ 2 (.int .i64 m2)).set_ 3 (.int .i64 m3)).set_ 4 (.int .i64 m4)).set_ 5 (.int .i64 m5)).set_ 6 (.int .i64 m6)).set_ 7 (.int .i64 m7)).set_ 8 (.int .i64 m8))
  clear b2 c0 c1 c2 f0 f1 f2 l0 l1 l2
  generalize (((((((((w1.setCell ⟨w.heap.size + 1 + 1, 0, none⟩ (.int .i64 m0)).setCell ⟨w.heap.size + 1 + 1, 1, none⟩ (.int .i64 m1)).setCell ⟨w.heap.size + 1 + 1, 2, none⟩ (.int .i64 m2)).setCell ⟨w.heap.size + 1 + 1, 3, none⟩ (.int .i64 m3)).setCell ⟨w.heap.size + 1 + 1, 4, none⟩ (.int .i64 m4)).setCell ⟨w.heap.size + 1 + 1, 5, none⟩ (.int .i64 m5)).setCell ⟨w.heap.size + 1 + 1, 6, none⟩ (.int .i64 m6)).setCell ⟨w.heap.size + 1 + 1, 7, none⟩ (.int .i64 m7)).setCell ⟨w.heap.size + 1 + 1, 8, none⟩ (.int .i64 m8)) = W1 at hB b0 b1 b2' ⊢
  have b2 := b2'
  clear b2'
  have c0 := b0.cell
  have f0 := b0.frozen
  have l0 := b0.lt
  have c1 := b1.cell
  have f1 := b1.frozen
  have l1 := b1.lt
  have c2 := b2.cell
  have f2 := b2.frozen
  have l2 := b2.lt
  refine (toVec_any _ _ _ _).mono ?_
  rintro e w1 ⟨rfl, hb⟩
  have hB := (by with_reducible first | exact b_keep hb hB | exact b_keep hb hB.drew)
  replace b0 : Blk w1 _ _ _ := (by with_reducible first | exact Blk.keep hb b0 | exact Blk.keep hb b0.drew)
  replace b1 : Blk w1 _ _ _ := (by with_reducible first | exact Blk.keep hb b1 | exact Blk.keep hb b1.drew)
  replace b2 : Blk w1 _ _ _ := (by with_reducible first | exact Blk.keep hb b2 | exact Blk.keep hb b2.drew)
  replace l0 := b0.lt
  replace l1 := b1.lt
  replace l2 := b2.lt
  replace c0 := b0.cell
  replace c1 := b1.cell
  replace c2 := b2.cell
  replace f0 := b0.frozen
  replace f1 := b1.frozen
  replace f2 := b2.frozen
  clear hb
  go_wp2
  exact bodyPost_ret (v := .agg #[.int .i64 (m0), .int .i64 (m1), .int .i64 (m2), .int .i64 (m3), .int .i64 (m4), .int .i64 (m5), .int .i64 (m6), .int .i64 (m7), .int .i64 (m8), .int .i64 (x), .int .i64 (y), .int .i64 (z)]) (by simp [results, Tryd.results25, go_sem, c1]) rfl ⟨rfl, (((((((((((((((hB.setCell (by dsimp only; omega) _).setCell (by dsimp only; omega) _).setCell (by dsimp only; omega) _).setCell (by dsimp only; omega) _).setCell (by dsimp only; omega) _).setCell (by dsimp only; omega) _).setCell (by dsimp only; omega) _).setCell (by dsimp only; omega) _).setCell (by dsimp only; omega) _).setCell (by dsimp only; omega) _).setCell (by dsimp only; omega) _).setCell (by dsimp only; omega) _).setCell (by dsimp only; omega) _).setCell (by dsimp only; omega) _).setCell (by dsimp only; omega) _)⟩
set_option maxHeartbeats 8000000 in
theorem toPatch_any (p0 p1 p2 p3 p4 p5 p6 p7 p8 p9 p10 p11 : Int) (w : World) :
    Calls Tryd.prog 28 #[.agg #[.int .i64 (p0), .int .i64 (p1), .int .i64 (p2), .int .i64 (p3), .int .i64 (p4), .int .i64 (p5), .int .i64 (p6), .int .i64 (p7), .int .i64 (p8), .int .i64 (p9), .int .i64 (p10), .int .i64 (p11)]] w fun e w' => e = .returned (.agg #[.int .i64 (p0), .int .i64 (p1), .int .i64 (p2), .int .i64 (p3), .int .i64 (p4), .int .i64 (p5), .int .i64 (p6), .int .i64 (p7), .int .i64 (p8), .int .i64 (p9), .int .i64 (p10), .int .i64 (p11)]) ∧ Below w.heap.size w w' := by
  have hB := below3 w (.cells #[.int .i64 (p0), .int .i64 (p1), .int .i64 (p2), .int .i64 (p3), .int .i64 (p4), .int .i64 (p5), .int .i64 (p6), .int .i64 (p7), .int .i64 (p8), .int .i64 (p9), .int .i64 (p10), .int .i64 (p11)] 52) (.cells #[.int .i64 (0), .int .i64 (0), .int .i64 (0), .int .i64 (0), .int .i64 (0), .int .i64 (0), .int .i64 (0), .int .i64 (0), .int .i64 (0), .int .i64 (0), .int .i64 (0), .int .i64 (0)] 56) (.cells #[.int .i64 (0), .int .i64 (0), .int .i64 (0), .int .i64 (0), .int .i64 (0), .int .i64 (0), .int .i64 (0), .int .i64 (0), .int .i64 (0), .int .i64 (0), .int .i64 (0), .int .i64 (0)] 56)
  obtain ⟨b0, b1, b2⟩ := blk3 w #[.int .i64 (p0), .int .i64 (p1), .int .i64 (p2), .int .i64 (p3), .int .i64 (p4), .int .i64 (p5), .int .i64 (p6), .int .i64 (p7), .int .i64 (p8), .int .i64 (p9), .int .i64 (p10), .int .i64 (p11)] #[.int .i64 (0), .int .i64 (0), .int .i64 (0), .int .i64 (0), .int .i64 (0), .int .i64 (0), .int .i64 (0), .int .i64 (0), .int .i64 (0), .int .i64 (0), .int .i64 (0), .int .i64 (0)] #[.int .i64 (0), .int .i64 (0), .int .i64 (0), .int .i64 (0), .int .i64 (0), .int .i64 (0), .int .i64 (0), .int .i64 (0), .int .i64 (0), .int .i64 (0), .int .i64 (0), .int .i64 (0)] 52 56 56
  go_enter Tryd.func28, Tryd.ntmps28
  go_wp2_with fail
  generalize (((w.alloc (.cells #[.int .i64 (p0), .int .i64 (p1), .int .i64 (p2), .int .i64 (p3), .int .i64 (p4), .int .i64 (p5), .int .i64 (p6), .int .i64 (p7), .int .i64 (p8), .int .i64 (p9), .int .i64 (p10), .int .i64 (p11)] 52)).alloc (.cells #[.int .i64 (0), .int .i64 (0), .int .i64 (0), .int .i64 (0), .int .i64 (0), .int .i64 (0), .int .i64 (0), .int .i64 (0), .int .i64 (0), .int .i64 (0), .int .i64 (0), .int .i64 (0)] 56)).alloc (.cells #[.int .i64 (0), .int .i64 (0), .int .i64 (0), .int .i64 (0), .int .i64 (0), .int .i64 (0), .int .i64 (0), .int .i64 (0), .int .i64 (0), .int .i64 (0), .int .i64 (0), .int .i64 (0)] 56)) = W0 at hB b0 b1 b2 ⊢
  have c0 := b0.cell
  have f0 := b0.frozen
  have l0 := b0.lt
  have c1 := b1.cell
  have f1 := b1.frozen
  have l1 := b1.lt
  have c2 := b2.cell
  have f2 := b2.frozen
  have l2 := b2.lt
  refine (toVecA4_any _ _ _ _ _ _ _ _ _ _ _ _ _).mono ?_
  rintro e w1 ⟨rfl, hb⟩
  have hB := (by with_reducible first | exact b_keep hb hB | exact b_keep hb hB.drew)
  replace b0 : Blk w1 _ _ _ := (by with_reducible first | exact Blk.keep hb b0 | exact Blk.keep hb b0.drew)
  replace b1 : Blk w1 _ _ _ := (by with_reducible first | exact Blk.keep hb b1 | exact Blk.keep hb b1.drew)
  replace b2 : Blk w1 _ _ _ := (by with_reducible first | exact Blk.keep hb b2 | exact Blk.keep hb b2.drew)
  replace l0 := b0.lt
  replace l1 := b1.lt
  replace l2 := b2.lt
  replace c0 := b0.cell
  replace c1 := b1.cell
  replace c2 := b2.cell
  replace f0 := b0.frozen
  replace f1 := b1.frozen
  replace f2 := b2.frozen
  clear hb
  go_wp2
  exact bodyPost_ret (v := .agg #[.int .i64 (p0), .int .i64 (p1), .int .i64 (p2), .int .i64 (p3), .int .i64 (p4), .int .i64 (p5), .int .i64 (p6), .int .i64 (p7), .int .i64 (p8), .int .i64 (p9), .int .i64 (p10), .int .i64 (p11)]) (by simp [results, Tryd.results28, go_sem, c1]) rfl ⟨rfl, ((((((((((((((((((((((((hB.setCell (by dsimp only; omega) _).setCell (by dsimp only; omega) _).setCell (by dsimp only; omega) _).setCell (by dsimp only; omega) _).setCell (by dsimp only; omega) _).setCell (by dsimp only; omega) _).setCell (by dsimp only; omega) _).setCell (by dsimp only; omega) _).setCell (by dsimp only; omega) _).setCell (by dsimp only; omega) _).setCell (by dsimp only; omega) _).setCell (by dsimp only; omega) _).setCell (by dsimp only; omega) _).setCell (by dsimp only; omega) _).setCell (by dsimp only; omega) _).setCell (by dsimp only; omega) _).setCell (by dsimp only; omega) _).setCell (by dsimp only; omega) _).setCell (by dsimp only; omega) _).setCell (by dsimp only; omega) _).setCell (by dsimp only; omega) _).setCell (by dsimp only; omega) _).setCell (by dsimp only; omega) _).setCell (by dsimp only; omega) _)⟩
end Go.Proofs.YthcoogljaagneaaDoor
