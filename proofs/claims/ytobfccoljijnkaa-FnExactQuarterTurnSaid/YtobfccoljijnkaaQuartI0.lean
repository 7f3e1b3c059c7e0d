/- The program's QuarterTurn, axis 0. -/
import Derived.Test.YtobfccoljijnkaaQuartIH
namespace Go.Proofs.Ytobfccoljijnkaa
open Go.RowKit

set_option maxRecDepth 100000 in
set_option maxHeartbeats 8000000 in
theorem quartI0 (k : Int) (h1 : -9223372036854775808 ≤ k) (h2 : k ≤ 9223372036854775807) (w : World) :
    Calls Try.prog 33 #[.int .i64 0, .int .i64 k] w fun e w' => e = .returned (.agg #[.int .i64 (mat q0m (k % 4).toNat 0), .int .i64 (mat q0m (k % 4).toNat 1), .int .i64 (mat q0m (k % 4).toNat 2), .int .i64 (mat q0m (k % 4).toNat 3), .int .i64 (mat q0m (k % 4).toNat 4), .int .i64 (mat q0m (k % 4).toNat 5), .int .i64 (mat q0m (k % 4).toNat 6), .int .i64 (mat q0m (k % 4).toNat 7), .int .i64 (mat q0m (k % 4).toNat 8), .int .i64 (0), .int .i64 (0), .int .i64 (0)]) ∧ Below w.heap.size w w' := by
  obtain ⟨n, hn⟩ : ∃ n : Nat, n = (k % 4).toNat := ⟨_, rfl⟩
  have hn3 : n ≤ 3 := by omega
  have HN := Lib.hid (show k % 4 = (n : Int) by omega)
  rw [← hn]
  clear hn
  have hB := below2 w (.cells #[.int .i64 (0), .int .i64 (0), .int .i64 (0), .int .i64 (0), .int .i64 (0), .int .i64 (0), .int .i64 (0), .int .i64 (0), .int .i64 (0), .int .i64 (0), .int .i64 (0), .int .i64 (0)] 56) (.cells #[.int .i64 (0), .int .i64 (0), .int .i64 (0), .int .i64 (0), .int .i64 (0), .int .i64 (0), .int .i64 (0), .int .i64 (0), .int .i64 (0), .int .i64 (0), .int .i64 (0), .int .i64 (0), .int .i64 (0), .int .i64 (0), .int .i64 (0), .int .i64 (0), .int .i64 (0), .int .i64 (0), .int .i64 (0), .int .i64 (0), .int .i64 (0), .int .i64 (0), .int .i64 (0), .int .i64 (0), .int .i64 (0), .int .i64 (0), .int .i64 (0)] 101)
  obtain ⟨b0, b1⟩ := blk2 w #[.int .i64 (0), .int .i64 (0), .int .i64 (0), .int .i64 (0), .int .i64 (0), .int .i64 (0), .int .i64 (0), .int .i64 (0), .int .i64 (0), .int .i64 (0), .int .i64 (0), .int .i64 (0)] #[.int .i64 (0), .int .i64 (0), .int .i64 (0), .int .i64 (0), .int .i64 (0), .int .i64 (0), .int .i64 (0), .int .i64 (0), .int .i64 (0), .int .i64 (0), .int .i64 (0), .int .i64 (0), .int .i64 (0), .int .i64 (0), .int .i64 (0), .int .i64 (0), .int .i64 (0), .int .i64 (0), .int .i64 (0), .int .i64 (0), .int .i64 (0), .int .i64 (0), .int .i64 (0), .int .i64 (0), .int .i64 (0), .int .i64 (0), .int .i64 (0)] 56 101
  have hB := below_setRow (g := w.heap.size + 1) hB (by omega) #[.int .i64 (16), .int .i64 (0), .int .i64 (0), .int .i64 (0), .int .i64 (0), .int .i64 (-16), .int .i64 (0), .int .i64 (16), .int .i64 (0), .int .i64 (0), .int .i64 (0), .int .i64 (16), .int .i64 (0), .int .i64 (16), .int .i64 (0), .int .i64 (-16), .int .i64 (0), .int .i64 (0), .int .i64 (0), .int .i64 (-16), .int .i64 (0), .int .i64 (16), .int .i64 (0), .int .i64 (0), .int .i64 (0), .int .i64 (0), .int .i64 (16)]
  have b1 : Blk _ (w.heap.size + 1) 101 #[.int .i64 (16), .int .i64 (0), .int .i64 (0), .int .i64 (0), .int .i64 (0), .int .i64 (-16), .int .i64 (0), .int .i64 (16), .int .i64 (0), .int .i64 (0), .int .i64 (0), .int .i64 (16), .int .i64 (0), .int .i64 (16), .int .i64 (0), .int .i64 (-16), .int .i64 (0), .int .i64 (0), .int .i64 (0), .int .i64 (-16), .int .i64 (0), .int .i64 (16), .int .i64 (0), .int .i64 (0), .int .i64 (0), .int .i64 (0), .int .i64 (16)] := setRow_heap _ (w.heap.size + 1) _ #[.int .i64 (16), .int .i64 (0), .int .i64 (0), .int .i64 (0), .int .i64 (0), .int .i64 (-16), .int .i64 (0), .int .i64 (16), .int .i64 (0), .int .i64 (0), .int .i64 (0), .int .i64 (16), .int .i64 (0), .int .i64 (16), .int .i64 (0), .int .i64 (-16), .int .i64 (0), .int .i64 (0), .int .i64 (0), .int .i64 (-16), .int .i64 (0), .int .i64 (16), .int .i64 (0), .int .i64 (0), .int .i64 (0), .int .i64 (0), .int .i64 (16)] _ _ b1
  have b0 : Blk _ w.heap.size 56 #[.int .i64 (0), .int .i64 (0), .int .i64 (0), .int .i64 (0), .int .i64 (0), .int .i64 (0), .int .i64 (0), .int .i64 (0), .int .i64 (0), .int .i64 (0), .int .i64 (0), .int .i64 (0)] := (setRow_other _ (w.heap.size + 1) w.heap.size #[.int .i64 (16), .int .i64 (0), .int .i64 (0), .int .i64 (0), .int .i64 (0), .int .i64 (-16), .int .i64 (0), .int .i64 (16), .int .i64 (0), .int .i64 (0), .int .i64 (0), .int .i64 (16), .int .i64 (0), .int .i64 (16), .int .i64 (0), .int .i64 (-16), .int .i64 (0), .int .i64 (0), .int .i64 (0), .int .i64 (-16), .int .i64 (0), .int .i64 (16), .int .i64 (0), .int .i64 (0), .int .i64 (0), .int .i64 (0), .int .i64 (16)] (by omega)).trans b0
  have HX := Lib.hid (blk2 w #[.int .i64 (0), .int .i64 (0), .int .i64 (0), .int .i64 (0), .int .i64 (0), .int .i64 (0), .int .i64 (0), .int .i64 (0), .int .i64 (0), .int .i64 (0), .int .i64 (0), .int .i64 (0)] #[.int .i64 (0), .int .i64 (0), .int .i64 (0), .int .i64 (0), .int .i64 (0), .int .i64 (0), .int .i64 (0), .int .i64 (0), .int .i64 (0), .int .i64 (0), .int .i64 (0), .int .i64 (0), .int .i64 (0), .int .i64 (0), .int .i64 (0), .int .i64 (0), .int .i64 (0), .int .i64 (0), .int .i64 (0), .int .i64 (0), .int .i64 (0), .int .i64 (0), .int .i64 (0), .int .i64 (0), .int .i64 (0), .int .i64 (0), .int .i64 (0)] 56 101).2
  obtain ⟨WW, hWW⟩ : ∃ WW, WW = ((w.alloc (.cells #[.int .i64 (0), .int .i64 (0), .int .i64 (0), .int .i64 (0), .int .i64 (0), .int .i64 (0), .int .i64 (0), .int .i64 (0), .int .i64 (0), .int .i64 (0), .int .i64 (0), .int .i64 (0)] 56)).alloc (.cells #[.int .i64 (0), .int .i64 (0), .int .i64 (0), .int .i64 (0), .int .i64 (0), .int .i64 (0), .int .i64 (0), .int .i64 (0), .int .i64 (0), .int .i64 (0), .int .i64 (0), .int .i64 (0), .int .i64 (0), .int .i64 (0), .int .i64 (0), .int .i64 (0), .int .i64 (0), .int .i64 (0), .int .i64 (0), .int .i64 (0), .int .i64 (0), .int .i64 (0), .int .i64 (0), .int .i64 (0), .int .i64 (0), .int .i64 (0), .int .i64 (0)] 101)).setRow (w.heap.size + 1) #[.int .i64 (16), .int .i64 (0), .int .i64 (0), .int .i64 (0), .int .i64 (0), .int .i64 (-16), .int .i64 (0), .int .i64 (16), .int .i64 (0), .int .i64 (0), .int .i64 (0), .int .i64 (16), .int .i64 (0), .int .i64 (16), .int .i64 (0), .int .i64 (-16), .int .i64 (0), .int .i64 (0), .int .i64 (0), .int .i64 (-16), .int .i64 (0), .int .i64 (16), .int .i64 (0), .int .i64 (0), .int .i64 (0), .int .i64 (0), .int .i64 (16)] := ⟨_, rfl⟩
  rw [← hWW] at hB b0 b1
  have HW := Lib.hid hWW
  have hB' := Lib.hid hB
  have b0' := Lib.hid b0
  have b1' := Lib.hid b1
  clear hB b0 b1 hWW
  go_enter Try.func33, Try.ntmps33
  go_upto_region 2 with (refine wp_store_row 101 (.tmp 5) (.tmp 10) rfl (w.heap.size + 1) #[.int .i64 (16), .int .i64 (0), .int .i64 (0), .int .i64 (0), .int .i64 (0), .int .i64 (-16), .int .i64 (0), .int .i64 (16), .int .i64 (0), .int .i64 (0), .int .i64 (0), .int .i64 (16), .int .i64 (0), .int .i64 (16), .int .i64 (0), .int .i64 (-16), .int .i64 (0), .int .i64 (0), .int .i64 (0), .int .i64 (-16), .int .i64 (0), .int .i64 (16), .int .i64 (0), .int .i64 (0), .int .i64 (0), .int .i64 (0), .int .i64 (16)] rfl rfl 101 #[.int .i64 (0), .int .i64 (0), .int .i64 (0), .int .i64 (0), .int .i64 (0), .int .i64 (0), .int .i64 (0), .int .i64 (0), .int .i64 (0), .int .i64 (0), .int .i64 (0), .int .i64 (0), .int .i64 (0), .int .i64 (0), .int .i64 (0), .int .i64 (0), .int .i64 (0), .int .i64 (0), .int .i64 (0), .int .i64 (0), .int .i64 (0), .int .i64 (0), .int .i64 (0), .int .i64 (0), .int .i64 (0), .int .i64 (0), .int .i64 (0)] HX.out (by kernel_rfl) (by kernel_rfl) (by kernel_rfl) ?_; rw [← HW.out])
  have hB := hB'.out
  have b0 := b0'.out
  have b1 := b1'.out
  clear hB' b0' b1' HX
  clear HW
  generalize WW = W0 at hB b0 b1 ⊢
  simp only [Act.put]
  generalize Value.agg #[.int .i64 (16), .int .i64 (0), .int .i64 (0), .int .i64 (0), .int .i64 (0), .int .i64 (-16), .int .i64 (0), .int .i64 (16), .int .i64 (0), .int .i64 (0), .int .i64 (0), .int .i64 (16), .int .i64 (0), .int .i64 (16), .int .i64 (0), .int .i64 (-16), .int .i64 (0), .int .i64 (0), .int .i64 (0), .int .i64 (-16), .int .i64 (0), .int .i64 (16), .int .i64 (0), .int .i64 (0), .int .i64 (0), .int .i64 (0), .int .i64 (16)] = z10
  generalize Value.agg #[.int .i64 (16), .int .i64 (0), .int .i64 (0), .int .i64 (0), .int .i64 (0), .int .i64 (-16), .int .i64 (0), .int .i64 (16), .int .i64 (0)] = z7
  generalize Value.agg #[.int .i64 (0), .int .i64 (0), .int .i64 (16), .int .i64 (0), .int .i64 (16), .int .i64 (0), .int .i64 (-16), .int .i64 (0), .int .i64 (0)] = z8
  generalize Value.agg #[.int .i64 (0), .int .i64 (-16), .int .i64 (0), .int .i64 (16), .int .i64 (0), .int .i64 (0), .int .i64 (0), .int .i64 (0), .int .i64 (16)] = z9
  have c0 := b0.cell
  have f0 := b0.frozen
  have l0 := b0.lt
  have c1 := b1.cell
  have f1 := b1.frozen
  have l1 := b1.lt
  go_wp2_with fail
  refine (identityI _).mono ?_
  rintro e w1 ⟨rfl, hb⟩
  have hB := (by with_reducible first | exact b_keep hb hB | exact b_keep hb hB.drew)
  replace b0 : Blk w1 _ _ _ := (by with_reducible first | exact Blk.keep hb b0 | exact Blk.keep hb b0.drew)
  replace b1 : Blk w1 _ _ _ := (by with_reducible first | exact Blk.keep hb b1 | exact Blk.keep hb b1.drew)
  replace l0 := b0.lt
  replace l1 := b1.lt
  replace c0 := b0.cell
  replace c1 := b1.cell
  replace f0 := b0.frozen
  replace f1 := b1.frozen
  clear hb
  go_wp2_with fail
  have d2_0 := b0.lt
  have d2_1 := b1.lt
  have g2 := hB.size
  replace b0 := b0.alloc (.cells #[.int .i64 (16), .int .i64 (0), .int .i64 (0), .int .i64 (0), .int .i64 (16), .int .i64 (0), .int .i64 (0), .int .i64 (0), .int .i64 (16), .int .i64 (0), .int .i64 (0), .int .i64 (0)] 56)
  replace b1 := b1.alloc (.cells #[.int .i64 (16), .int .i64 (0), .int .i64 (0), .int .i64 (0), .int .i64 (16), .int .i64 (0), .int .i64 (0), .int .i64 (0), .int .i64 (16), .int .i64 (0), .int .i64 (0), .int .i64 (0)] 56)
  have b2 := Blk.new w1 56 #[.int .i64 (16), .int .i64 (0), .int .i64 (0), .int .i64 (0), .int .i64 (16), .int .i64 (0), .int .i64 (0), .int .i64 (0), .int .i64 (16), .int .i64 (0), .int .i64 (0), .int .i64 (0)]
  replace hB := hB.alloc hB.size (.cells #[.int .i64 (16), .int .i64 (0), .int .i64 (0), .int .i64 (0), .int .i64 (16), .int .i64 (0), .int .i64 (0), .int .i64 (0), .int .i64 (16), .int .i64 (0), .int .i64 (0), .int .i64 (0)] 56)
  clear c0 f0 l0 c1 f1 l1
  generalize w1.heap.size = q2 at b2 g2 d2_0 d2_1 ⊢
  generalize w1.alloc (.cells #[.int .i64 (16), .int .i64 (0), .int .i64 (0), .int .i64 (0), .int .i64 (16), .int .i64 (0), .int .i64 (0), .int .i64 (0), .int .i64 (16), .int .i64 (0), .int .i64 (0), .int .i64 (0)] 56) = W2 at hB b0 b1 b2 ⊢
  have c0 := b0.cell
  have f0 := b0.frozen
  have l0 := b0.lt
  have c1 := b1.cell
  have f1 := b1.frozen
  have l1 := b1.lt
  have c2 := b2.cell
  have f2 := b2.frozen
  have l2 := b2.lt
  refine (within_any _ _ _ _).mono ?_
  rintro e w2 ⟨rfl, rfl⟩
  generalize hin : inB 0 0 2 = bb
  obtain rfl : bb = true := by rw [← hin]; rfl
  clear hin
  go_wp2_with fail
  refine (floorMod4 k h1 h2 _).mono ?_
  rintro e w2 ⟨rfl, rfl⟩
  go_wp2
  go_loopw [1] (fun s wr => ∃ r : Nat, r ≤ n ∧ s = .int .i64 r ∧ Blk wr w.heap.size 56 #[.int .i64 (0), .int .i64 (0), .int .i64 (0), .int .i64 (0), .int .i64 (0), .int .i64 (0), .int .i64 (0), .int .i64 (0), .int .i64 (0), .int .i64 (0), .int .i64 (0), .int .i64 (0)] ∧ Blk wr (w.heap.size + 1) 101 #[.int .i64 (16), .int .i64 (0), .int .i64 (0), .int .i64 (0), .int .i64 (0), .int .i64 (-16), .int .i64 (0), .int .i64 (16), .int .i64 (0), .int .i64 (0), .int .i64 (0), .int .i64 (16), .int .i64 (0), .int .i64 (16), .int .i64 (0), .int .i64 (-16), .int .i64 (0), .int .i64 (0), .int .i64 (0), .int .i64 (-16), .int .i64 (0), .int .i64 (16), .int .i64 (0), .int .i64 (0), .int .i64 (0), .int .i64 (0), .int .i64 (16)] ∧ Blk wr q2 56 #[.int .i64 (mat q0m (n - r) 0), .int .i64 (mat q0m (n - r) 1), .int .i64 (mat q0m (n - r) 2), .int .i64 (mat q0m (n - r) 3), .int .i64 (mat q0m (n - r) 4), .int .i64 (mat q0m (n - r) 5), .int .i64 (mat q0m (n - r) 6), .int .i64 (mat q0m (n - r) 7), .int .i64 (mat q0m (n - r) 8), .int .i64 (0), .int .i64 (0), .int .i64 (0)] ∧ Below w.heap.size w wr) (fun s _ => (intOf s).toNat)
  case atStart => exact ⟨n, Nat.le_refl _, by rw [HN.out], b0, b1, (by rw [Nat.sub_self]; exact b2), hB⟩
  case round =>
    clear hB b0 b1 b2 c0 f0 l0 c1 f1 l1 c2 f2 l2
    obtain ⟨r, hr, rfl, b0, b1, b2, hB⟩ := hrel
    by_cases hr0 : 0 < r
    · obtain ⟨m, hm⟩ : ∃ m, m = n - r := ⟨_, rfl⟩
      rw [← hm] at b2
      have hm3 : m ≤ 3 := by omega
      have HM := Lib.hid (show n - (r - 1) = m + 1 by omega)
      have hr1 : r - 1 ≤ n := by omega
      have hri : (0 : Int) < (r : Int) := by omega
      have HR := Lib.hid (show (r : Int) - 1 = ((r - 1 : Nat) : Int) by omega)
      have hr3 : (r : Int) ≤ 3 := by omega
      clear hm
      have c0 := b0.cell
      have f0 := b0.frozen
      have l0 := b0.lt
      have c1 := b1.cell
      have f1 := b1.frozen
      have l1 := b1.lt
      have c2 := b2.cell
      have f2 := b2.frozen
      have l2 := b2.lt
      go_wp2_with fail
      refine wp_region_tail (S := fun w' => (∀ i, w'.cell? ⟨w.heap.size + 1, i, none⟩ = (#[.int .i64 (16), .int .i64 (0), .int .i64 (0), .int .i64 (0), .int .i64 (0), .int .i64 (-16), .int .i64 (0), .int .i64 (16), .int .i64 (0), .int .i64 (0), .int .i64 (0), .int .i64 (16), .int .i64 (0), .int .i64 (16), .int .i64 (0), .int .i64 (-16), .int .i64 (0), .int .i64 (0), .int .i64 (0), .int .i64 (-16), .int .i64 (0), .int .i64 (16), .int .i64 (0), .int .i64 (0), .int .i64 (0), .int .i64 (0), .int .i64 (16)] : Array Value)[i]?) ∧ (∀ i, w'.cell? ⟨q2, i, none⟩ = (#[.int .i64 (mat q0m m 0), .int .i64 (mat q0m m 1), .int .i64 (mat q0m m 2), .int .i64 (mat q0m m 3), .int .i64 (mat q0m m 4), .int .i64 (mat q0m m 5), .int .i64 (mat q0m m 6), .int .i64 (mat q0m m 7), .int .i64 (mat q0m m 8), .int .i64 (0), .int .i64 (0), .int .i64 (0)] : Array Value)[i]?)) 6 (by kernel_rfl) (by kernel_rfl) ⟨b1.drew.cell, b2.drew.cell⟩ (fun hHeld => ?_)
      refine wpAnyH_take (i := 0) (v := ?v0) rfl (by kernel_rfl) (by kernel_rfl) (by kernel_rfl) (fun _ _ _ h => h) (Or.inl ⟨by rfl, ?y0⟩) (by assumption) ?r0
      case y0 => intro W hSw; (try dsimp only at hSw); go_simp; try with_reducible rfl
      try simp only [Act.put]
      try simp only [List.setIfInBounds_toArray]
      try simp only [List.set_cons_succ]
      try simp only [List.set_cons_zero]
      refine wpAnyH_take (i := 1) (v := ?v1) rfl (by kernel_rfl) (by kernel_rfl) (by kernel_rfl) (fun _ _ _ h => h) (Or.inl ⟨by rfl, ?y1⟩) (by assumption) ?r1
      case y1 => intro W hSw; (try dsimp only at hSw); go_simp; try with_reducible rfl
      try simp only [Act.put]
      try simp only [List.setIfInBounds_toArray]
      try simp only [List.set_cons_succ]
      try simp only [List.set_cons_zero]
      refine wpAnyH_take (i := 2) (v := ?v2) rfl (by kernel_rfl) (by kernel_rfl) (by kernel_rfl) (fun _ _ _ h => h) (Or.inl ⟨by rfl, ?y2⟩) (by assumption) ?r2
      case y2 => intro W hSw; (try dsimp only at hSw); go_simp; try with_reducible rfl
      try simp only [Act.put]
      try simp only [List.setIfInBounds_toArray]
      try simp only [List.set_cons_succ]
      try simp only [List.set_cons_zero]
      refine wpAnyH_take (i := 3) (v := ?v3) rfl (by kernel_rfl) (by kernel_rfl) (by kernel_rfl) (fun _ _ _ h => h) (Or.inl ⟨by rfl, ?y3⟩) (by assumption) ?r3
      case y3 => intro W hSw; (try dsimp only at hSw); go_simp; try with_reducible rfl
      try simp only [Act.put]
      try simp only [List.setIfInBounds_toArray]
      try simp only [List.set_cons_succ]
      try simp only [List.set_cons_zero]
      refine wpAnyH_take (i := 4) (v := ?v4) rfl (by kernel_rfl) (by kernel_rfl) (by kernel_rfl) (fun _ _ _ h => h) (Or.inl ⟨by rfl, ?y4⟩) (by assumption) ?r4
      case y4 => intro W hSw; (try dsimp only at hSw); go_simp; try with_reducible rfl
      try simp only [Act.put]
      try simp only [List.setIfInBounds_toArray]
      try simp only [List.set_cons_succ]
      try simp only [List.set_cons_zero]
      refine wpAnyH_ready (rs := [5]) (by kernel_rfl) (by simp) ?_
      refine AllReadyH.cons rfl (fun K hK => ?_) AllReadyH.nil
      go_simp
      (go_at_call 78; refine (stepquartI0 hm3 _).mono ?_; rintro e w1 ⟨rfl, hb⟩; have hB := (by with_reducible first | exact b_keep hb hB | exact b_keep hb hB.drew); replace b0 : Blk w1 _ _ _ := (by with_reducible first | exact Blk.keep hb b0 | exact Blk.keep hb b0.drew); replace b1 : Blk w1 _ _ _ := (by with_reducible first | exact Blk.keep hb b1 | exact Blk.keep hb b1.drew); replace b2 : Blk w1 _ _ _ := (by with_reducible first | exact Blk.keep hb b2 | exact Blk.keep hb b2.drew); replace l0 := b0.lt; replace l1 := b1.lt; replace l2 := b2.lt; replace c0 := b0.cell; replace c1 := b1.cell; replace c2 := b2.cell; replace f0 := b0.frozen; replace f1 := b1.frozen; replace f2 := b2.frozen)
      refine hK.out _ _ ⟨b1.cell, b2.cell⟩ (fun hHeld => ?_)
      clear hK K
      try simp only [Act.put]
      try simp only [List.setIfInBounds_toArray]
      try simp only [List.set_cons_succ]
      try simp only [List.set_cons_zero]
      refine wpAnyH_done (by kernel_rfl) ?_ _
      simp only [withNormal, List.drop_succ_cons, List.drop_zero]
      go_wp2
      go_roundw
      case rel => exact ⟨r - 1, hr1, by first | (rw [← HR.out]; done) | (rw [← HR.out]; go_num), b0.far9 (by omega) _ _ _ _ _ _ _ _ _, b1.far9 (by omega) _ _ _ _ _ _ _ _ _, (by rw [HM.out]; exact b2.set9 _ _ _ _ _ _ _ _ _), below_set9 hB (by omega) _ _ _ _ _ _ _ _ _⟩
      case measure => simp [intOf]; omega
    · obtain rfl : r = 0 := by omega
      rw [Nat.sub_zero] at b2
      have c0 := b0.cell
      have f0 := b0.frozen
      have l0 := b0.lt
      have c1 := b1.cell
      have f1 := b1.frozen
      have l1 := b1.lt
      have c2 := b2.cell
      have f2 := b2.frozen
      have l2 := b2.lt
      go_wp2
      exact bodyPost_ret (v := .agg #[.int .i64 (mat q0m n 0), .int .i64 (mat q0m n 1), .int .i64 (mat q0m n 2), .int .i64 (mat q0m n 3), .int .i64 (mat q0m n 4), .int .i64 (mat q0m n 5), .int .i64 (mat q0m n 6), .int .i64 (mat q0m n 7), .int .i64 (mat q0m n 8), .int .i64 (0), .int .i64 (0), .int .i64 (0)]) (by simp [results, Try.results33, go_sem, c0]) rfl ⟨rfl, ((((((((((((hB.setCell (by dsimp only; omega) _).setCell (by dsimp only; omega) _).setCell (by dsimp only; omega) _).setCell (by dsimp only; omega) _).setCell (by dsimp only; omega) _).setCell (by dsimp only; omega) _).setCell (by dsimp only; omega) _).setCell (by dsimp only; omega) _).setCell (by dsimp only; omega) _).setCell (by dsimp only; omega) _).setCell (by dsimp only; omega) _).setCell (by dsimp only; omega) _)⟩
end Go.Proofs.Ytobfccoljijnkaa
