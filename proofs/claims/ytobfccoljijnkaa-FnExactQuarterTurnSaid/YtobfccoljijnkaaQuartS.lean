/- spec.QuarterTurn. -/
import Derived.Test.YtobfccoljijnkaaMul
import Derived.Test.YtobfccoljijnkaaQuartT
namespace Go.Proofs.Ytobfccoljijnkaa
open Go.RowKit

theorem stepquartS0 {m : Nat} (h : m ≤ 3) (w : World) :
    Calls Try.prog 74 #[.agg #[.int .i64 (16), .int .i64 (0), .int .i64 (0), .int .i64 (0), .int .i64 (0), .int .i64 (-16), .int .i64 (0), .int .i64 (16), .int .i64 (0)], .agg #[.int .i64 (mat q0m m 0), .int .i64 (mat q0m m 1), .int .i64 (mat q0m m 2), .int .i64 (mat q0m m 3), .int .i64 (mat q0m m 4), .int .i64 (mat q0m m 5), .int .i64 (mat q0m m 6), .int .i64 (mat q0m m 7), .int .i64 (mat q0m m 8)]] w fun e w' => e = .returned (.agg #[.int .i64 (mat q0m (m + 1) 0), .int .i64 (mat q0m (m + 1) 1), .int .i64 (mat q0m (m + 1) 2), .int .i64 (mat q0m (m + 1) 3), .int .i64 (mat q0m (m + 1) 4), .int .i64 (mat q0m (m + 1) 5), .int .i64 (mat q0m (m + 1) 6), .int .i64 (mat q0m (m + 1) 7), .int .i64 (mat q0m (m + 1) 8)]) ∧ Below w.heap.size w w' := by
  have h := mul_any q0m (mat q0m m) q0_small (mat0_small h) w
  exact h
theorem stepquartS1 {m : Nat} (h : m ≤ 3) (w : World) :
    Calls Try.prog 74 #[.agg #[.int .i64 (0), .int .i64 (0), .int .i64 (16), .int .i64 (0), .int .i64 (16), .int .i64 (0), .int .i64 (-16), .int .i64 (0), .int .i64 (0)], .agg #[.int .i64 (mat q1m m 0), .int .i64 (mat q1m m 1), .int .i64 (mat q1m m 2), .int .i64 (mat q1m m 3), .int .i64 (mat q1m m 4), .int .i64 (mat q1m m 5), .int .i64 (mat q1m m 6), .int .i64 (mat q1m m 7), .int .i64 (mat q1m m 8)]] w fun e w' => e = .returned (.agg #[.int .i64 (mat q1m (m + 1) 0), .int .i64 (mat q1m (m + 1) 1), .int .i64 (mat q1m (m + 1) 2), .int .i64 (mat q1m (m + 1) 3), .int .i64 (mat q1m (m + 1) 4), .int .i64 (mat q1m (m + 1) 5), .int .i64 (mat q1m (m + 1) 6), .int .i64 (mat q1m (m + 1) 7), .int .i64 (mat q1m (m + 1) 8)]) ∧ Below w.heap.size w w' := by
  have h := mul_any q1m (mat q1m m) q1_small (mat1_small h) w
  exact h
theorem stepquartS2 {m : Nat} (h : m ≤ 3) (w : World) :
    Calls Try.prog 74 #[.agg #[.int .i64 (0), .int .i64 (-16), .int .i64 (0), .int .i64 (16), .int .i64 (0), .int .i64 (0), .int .i64 (0), .int .i64 (0), .int .i64 (16)], .agg #[.int .i64 (mat q2m m 0), .int .i64 (mat q2m m 1), .int .i64 (mat q2m m 2), .int .i64 (mat q2m m 3), .int .i64 (mat q2m m 4), .int .i64 (mat q2m m 5), .int .i64 (mat q2m m 6), .int .i64 (mat q2m m 7), .int .i64 (mat q2m m 8)]] w fun e w' => e = .returned (.agg #[.int .i64 (mat q2m (m + 1) 0), .int .i64 (mat q2m (m + 1) 1), .int .i64 (mat q2m (m + 1) 2), .int .i64 (mat q2m (m + 1) 3), .int .i64 (mat q2m (m + 1) 4), .int .i64 (mat q2m (m + 1) 5), .int .i64 (mat q2m (m + 1) 6), .int .i64 (mat q2m (m + 1) 7), .int .i64 (mat q2m (m + 1) 8)]) ∧ Below w.heap.size w w' := by
  have h := mul_any q2m (mat q2m m) q2_small (mat2_small h) w
  exact h
set_option maxHeartbeats 1000000 in
theorem quarter0 (w : World) : Calls Try.prog 75 #[.int .i64 0] w fun e w' => e = .returned (.agg #[.int .i64 (16), .int .i64 (0), .int .i64 (0), .int .i64 (0), .int .i64 (0), .int .i64 (-16), .int .i64 (0), .int .i64 (16), .int .i64 (0)]) ∧ Below w.heap.size w w' := by
  go_enter Try.func75, Try.ntmps75
  go_wp2
  exact bodyPost_ret (v := .agg #[.int .i64 (16), .int .i64 (0), .int .i64 (0), .int .i64 (0), .int .i64 (0), .int .i64 (-16), .int .i64 (0), .int .i64 (16), .int .i64 (0)]) (by simp [results, Try.results75, go_sem]) rfl ⟨rfl, below1 w _⟩
theorem quarter1 (w : World) : Calls Try.prog 75 #[.int .i64 1] w fun e w' => e = .returned (.agg #[.int .i64 (0), .int .i64 (0), .int .i64 (16), .int .i64 (0), .int .i64 (16), .int .i64 (0), .int .i64 (-16), .int .i64 (0), .int .i64 (0)]) ∧ Below w.heap.size w w' := by
  go_enter Try.func75, Try.ntmps75
  go_wp2
  exact bodyPost_ret (v := .agg #[.int .i64 (0), .int .i64 (0), .int .i64 (16), .int .i64 (0), .int .i64 (16), .int .i64 (0), .int .i64 (-16), .int .i64 (0), .int .i64 (0)]) (by simp [results, Try.results75, go_sem]) rfl ⟨rfl, below1 w _⟩
theorem quarter2 (w : World) : Calls Try.prog 75 #[.int .i64 2] w fun e w' => e = .returned (.agg #[.int .i64 (0), .int .i64 (-16), .int .i64 (0), .int .i64 (16), .int .i64 (0), .int .i64 (0), .int .i64 (0), .int .i64 (0), .int .i64 (16)]) ∧ Below w.heap.size w w' := by
  go_enter Try.func75, Try.ntmps75
  go_wp2
  exact bodyPost_ret (v := .agg #[.int .i64 (0), .int .i64 (-16), .int .i64 (0), .int .i64 (16), .int .i64 (0), .int .i64 (0), .int .i64 (0), .int .i64 (0), .int .i64 (16)]) (by simp [results, Try.results75, go_sem]) rfl ⟨rfl, below1 w _⟩
set_option maxHeartbeats 2000000 in
theorem quartS0 (k : Int) (h1 : -9223372036854775808 ≤ k) (h2 : k ≤ 9223372036854775807) (w : World) :
    Calls Try.prog 32 #[.int .i64 0, .int .i64 k] w fun e w' => e = .returned (.agg #[.int .i64 (mat q0m (k % 4).toNat 0), .int .i64 (mat q0m (k % 4).toNat 1), .int .i64 (mat q0m (k % 4).toNat 2), .int .i64 (mat q0m (k % 4).toNat 3), .int .i64 (mat q0m (k % 4).toNat 4), .int .i64 (mat q0m (k % 4).toNat 5), .int .i64 (mat q0m (k % 4).toNat 6), .int .i64 (mat q0m (k % 4).toNat 7), .int .i64 (mat q0m (k % 4).toNat 8), .int .i64 (0), .int .i64 (0), .int .i64 (0)]) ∧ Below w.heap.size w w' := by
  obtain ⟨n, hn⟩ : ∃ n : Nat, n = (k % 4).toNat := ⟨_, rfl⟩
  have hn3 : n ≤ 3 := by omega
  have HN := Lib.hid (show k % 4 = (n : Int) by omega)
  rw [← hn]
  clear hn
  have hq : fdZ k 4 = k / 4 := fdZ_pos (by omega)
  have H := Lib.hid (floorS k 4 h1 h2)
  obtain ⟨z, hz⟩ : ∃ z, z = fdZ k 4 := ⟨_, rfl⟩
  rw [← hz] at H hq
  have h51 : -9223372036854775808 ≤ z * 4 := by omega
  have h52 : z * 4 ≤ 9223372036854775807 := by omega
  have H4 := Lib.hid (show k - z * 4 = (n : Int) by have := HN.out; omega)
  have h61 : -9223372036854775808 ≤ k - z * 4 := by omega
  have h62 : k - z * 4 ≤ 9223372036854775807 := by omega
  clear hq hz
  have hB := below1 w (.cells #[.int .i64 (0), .int .i64 (0), .int .i64 (0), .int .i64 (0), .int .i64 (0), .int .i64 (0), .int .i64 (0), .int .i64 (0), .int .i64 (0), .int .i64 (0), .int .i64 (0), .int .i64 (0)] 56)
  have b0 := Blk.new w 56 #[.int .i64 (0), .int .i64 (0), .int .i64 (0), .int .i64 (0), .int .i64 (0), .int .i64 (0), .int .i64 (0), .int .i64 (0), .int .i64 (0), .int .i64 (0), .int .i64 (0), .int .i64 (0)]
  go_enter Try.func32, Try.ntmps32
  go_wp2_with fail
  generalize w.alloc (.cells #[.int .i64 (0), .int .i64 (0), .int .i64 (0), .int .i64 (0), .int .i64 (0), .int .i64 (0), .int .i64 (0), .int .i64 (0), .int .i64 (0), .int .i64 (0), .int .i64 (0), .int .i64 (0)] 56) = W0 at hB b0 ⊢
  have c0 := b0.cell
  have f0 := b0.frozen
  have l0 := b0.lt
  refine (identityS _).mono ?_
  rintro e w1 ⟨rfl, hb⟩
  have hB := (by with_reducible first | exact b_keep hb hB | exact b_keep hb hB.drew)
  replace b0 : Blk w1 _ _ _ := (by with_reducible first | exact Blk.keep hb b0 | exact Blk.keep hb b0.drew)
  replace l0 := b0.lt
  replace c0 := b0.cell
  replace f0 := b0.frozen
  clear hb
  go_wp2_with fail
  have d1_0 := b0.lt
  have g1 := hB.size
  replace b0 := b0.alloc (.cells #[.int .i64 (16), .int .i64 (0), .int .i64 (0), .int .i64 (0), .int .i64 (16), .int .i64 (0), .int .i64 (0), .int .i64 (0), .int .i64 (16), .int .i64 (0), .int .i64 (0), .int .i64 (0)] 56)
  have b1 := Blk.new w1 56 #[.int .i64 (16), .int .i64 (0), .int .i64 (0), .int .i64 (0), .int .i64 (16), .int .i64 (0), .int .i64 (0), .int .i64 (0), .int .i64 (16), .int .i64 (0), .int .i64 (0), .int .i64 (0)]
  replace hB := hB.alloc hB.size (.cells #[.int .i64 (16), .int .i64 (0), .int .i64 (0), .int .i64 (0), .int .i64 (16), .int .i64 (0), .int .i64 (0), .int .i64 (0), .int .i64 (16), .int .i64 (0), .int .i64 (0), .int .i64 (0)] 56)
  clear c0 f0 l0
  generalize w1.heap.size = q1 at b1 g1 d1_0 ⊢
  generalize w1.alloc (.cells #[.int .i64 (16), .int .i64 (0), .int .i64 (0), .int .i64 (0), .int .i64 (16), .int .i64 (0), .int .i64 (0), .int .i64 (0), .int .i64 (16), .int .i64 (0), .int .i64 (0), .int .i64 (0)] 56) = W1 at hB b0 b1 ⊢
  have c0 := b0.cell
  have f0 := b0.frozen
  have l0 := b0.lt
  have c1 := b1.cell
  have f1 := b1.frozen
  have l1 := b1.lt
  refine (l01In_any _ _ _ _).mono ?_
  rintro e w2 ⟨rfl, rfl⟩
  generalize hin : inB 0 0 2 = bb
  obtain rfl : bb = true := by rw [← hin]; rfl
  clear hin
  go_wp2_with fail
  refine (H.out _).mono ?_
  rintro e w2 ⟨rfl, rfl⟩
  go_wp2
  go_loopw [6] (fun s wr => ∃ r : Nat, r ≤ n ∧ s = .int .i64 r ∧ Blk wr w.heap.size 56 #[.int .i64 (0), .int .i64 (0), .int .i64 (0), .int .i64 (0), .int .i64 (0), .int .i64 (0), .int .i64 (0), .int .i64 (0), .int .i64 (0), .int .i64 (0), .int .i64 (0), .int .i64 (0)] ∧ Blk wr q1 56 #[.int .i64 (mat q0m (n - r) 0), .int .i64 (mat q0m (n - r) 1), .int .i64 (mat q0m (n - r) 2), .int .i64 (mat q0m (n - r) 3), .int .i64 (mat q0m (n - r) 4), .int .i64 (mat q0m (n - r) 5), .int .i64 (mat q0m (n - r) 6), .int .i64 (mat q0m (n - r) 7), .int .i64 (mat q0m (n - r) 8), .int .i64 (0), .int .i64 (0), .int .i64 (0)] ∧ Below w.heap.size w wr) (fun s _ => (intOf s).toNat)
  case atStart => exact ⟨n, Nat.le_refl _, by rw [H4.out], b0, (by rw [Nat.sub_self]; exact b1), hB⟩
  case round =>
    clear hB b0 b1 c0 f0 l0 c1 f1 l1
    obtain ⟨r, hr, rfl, b0, b1, hB⟩ := hrel
    by_cases hr0 : 0 < r
    · obtain ⟨m, hm⟩ : ∃ m, m = n - r := ⟨_, rfl⟩
      rw [← hm] at b1
      have hm3 : m ≤ 3 := by omega
      have HM := Lib.hid (show n - (r - 1) = m + 1 by omega)
      have hr1 : r - 1 ≤ n := by omega
      have hri : (0 : Int) < (r : Int) := by omega
      have HR := Lib.hid (show (r : Int) - 1 = ((r - 1 : Nat) : Int) by omega)
      have hr3 : (r : Int) ≤ 3 := by omega
      clear hm
      have c0 := b0.cell
      have f0 := b0.frozen
      have l0 := b0.lt
      have c1 := b1.cell
      have f1 := b1.frozen
      have l1 := b1.lt
      go_wp2_with fail
      refine wp_region_tail (S := fun w' => (∀ i, w'.cell? ⟨q1, i, none⟩ = (#[.int .i64 (mat q0m m 0), .int .i64 (mat q0m m 1), .int .i64 (mat q0m m 2), .int .i64 (mat q0m m 3), .int .i64 (mat q0m m 4), .int .i64 (mat q0m m 5), .int .i64 (mat q0m m 6), .int .i64 (mat q0m m 7), .int .i64 (mat q0m m 8), .int .i64 (0), .int .i64 (0), .int .i64 (0)] : Array Value)[i]?)) 5 (by kernel_rfl) (by kernel_rfl) b1.drew.cell (fun hHeld => ?_)
      refine wpAnyH_take (i := 0) (v := ?v0) rfl (by kernel_rfl) (by kernel_rfl) (by kernel_rfl) (fun _ _ _ h => h) (Or.inl ⟨by rfl, ?y0⟩) (by assumption) ?r0
      case y0 => intro W hSw; (try dsimp only at hSw); go_simp; try with_reducible rfl
      try simp only [Act.put]
      try simp only [List.setIfInBounds_toArray]
      try simp only [List.set_cons_succ]
      try simp only [List.set_cons_zero]
      refine wpAnyH_take (i := 2) (v := ?v2) rfl (by kernel_rfl) (by kernel_rfl) (by kernel_rfl) (fun _ _ _ h => h) (Or.inl ⟨by rfl, ?y2⟩) (by assumption) ?r2
      case y2 => intro W hSw; (try dsimp only at hSw); go_simp; try with_reducible rfl
      try simp only [Act.put]
      try simp only [List.setIfInBounds_toArray]
      try simp only [List.set_cons_succ]
      try simp only [List.set_cons_zero]
      refine wpAnyH_take (i := 3) (v := ?v3) rfl (by kernel_rfl) (by kernel_rfl) (by kernel_rfl) (fun _ _ _ h => h) (Or.inl ⟨by rfl, ?y3⟩) (by assumption) ?r3
      case y3 => intro W hSw; (try dsimp only at hSw); go_simp; try with_reducible rfl
      try simp only [Act.put]
      try simp only [List.setIfInBounds_toArray]
      try simp only [List.set_cons_succ]
      try simp only [List.set_cons_zero]
      refine wpAnyH_ready (rs := [1]) (by kernel_rfl) (by simp) ?_
      refine AllReadyH.cons rfl (fun K hK => ?_) AllReadyH.nil
      go_simp
      (go_at_call 75; refine (quarter0 _).mono ?_; rintro e w1 ⟨rfl, hb⟩; have hB := (by with_reducible first | exact b_keep hb hB | exact b_keep hb hB.drew); replace b0 : Blk w1 _ _ _ := (by with_reducible first | exact Blk.keep hb b0 | exact Blk.keep hb b0.drew); replace b1 : Blk w1 _ _ _ := (by with_reducible first | exact Blk.keep hb b1 | exact Blk.keep hb b1.drew); replace l0 := b0.lt; replace l1 := b1.lt; replace c0 := b0.cell; replace c1 := b1.cell; replace f0 := b0.frozen; replace f1 := b1.frozen)
      refine hK.out _ _ b1.cell (fun hHeld => ?_)
      clear hK K
      try simp only [Act.put]
      try simp only [List.setIfInBounds_toArray]
      try simp only [List.set_cons_succ]
      try simp only [List.set_cons_zero]
      refine wpAnyH_ready (rs := [4]) (by kernel_rfl) (by simp) ?_
      refine AllReadyH.cons rfl (fun K hK => ?_) AllReadyH.nil
      go_simp
      (go_at_call 74; refine (stepquartS0 hm3 _).mono ?_; rintro e w1 ⟨rfl, hb⟩; have hB := (by with_reducible first | exact b_keep hb hB | exact b_keep hb hB.drew); replace b0 : Blk w1 _ _ _ := (by with_reducible first | exact Blk.keep hb b0 | exact Blk.keep hb b0.drew); replace b1 : Blk w1 _ _ _ := (by with_reducible first | exact Blk.keep hb b1 | exact Blk.keep hb b1.drew); replace l0 := b0.lt; replace l1 := b1.lt; replace c0 := b0.cell; replace c1 := b1.cell; replace f0 := b0.frozen; replace f1 := b1.frozen)
      refine hK.out _ _ b1.cell (fun hHeld => ?_)
      clear hK K
      try simp only [Act.put]
      try simp only [List.setIfInBounds_toArray]
      try simp only [List.set_cons_succ]
      try simp only [List.set_cons_zero]
      refine wpAnyH_done (by kernel_rfl) ?_ _
      simp only [withNormal, List.drop_succ_cons, List.drop_zero]
      go_wp2
      go_roundw
      case rel => exact ⟨r - 1, hr1, by first | (rw [← HR.out]; done) | (rw [← HR.out]; go_num), b0.far9 (by omega) _ _ _ _ _ _ _ _ _, (by rw [HM.out]; exact b1.set9 _ _ _ _ _ _ _ _ _), below_set9 hB (by omega) _ _ _ _ _ _ _ _ _⟩
      case measure => simp [intOf]; omega
    · obtain rfl : r = 0 := by omega
      rw [Nat.sub_zero] at b1
      have c0 := b0.cell
      have f0 := b0.frozen
      have l0 := b0.lt
      have c1 := b1.cell
      have f1 := b1.frozen
      have l1 := b1.lt
      go_wp2
      exact bodyPost_ret (v := .agg #[.int .i64 (mat q0m n 0), .int .i64 (mat q0m n 1), .int .i64 (mat q0m n 2), .int .i64 (mat q0m n 3), .int .i64 (mat q0m n 4), .int .i64 (mat q0m n 5), .int .i64 (mat q0m n 6), .int .i64 (mat q0m n 7), .int .i64 (mat q0m n 8), .int .i64 (0), .int .i64 (0), .int .i64 (0)]) (by simp [results, Try.results32, go_sem, c0]) rfl ⟨rfl, ((((((((((((hB.setCell (by dsimp only; omega) _).setCell (by dsimp only; omega) _).setCell (by dsimp only; omega) _).setCell (by dsimp only; omega) _).setCell (by dsimp only; omega) _).setCell (by dsimp only; omega) _).setCell (by dsimp only; omega) _).setCell (by dsimp only; omega) _).setCell (by dsimp only; omega) _).setCell (by dsimp only; omega) _).setCell (by dsimp only; omega) _).setCell (by dsimp only; omega) _)⟩
set_option maxHeartbeats 2000000 in
theorem quartS1 (k : Int) (h1 : -9223372036854775808 ≤ k) (h2 : k ≤ 9223372036854775807) (w : World) :
    Calls Try.prog 32 #[.int .i64 1, .int .i64 k] w fun e w' => e = .returned (.agg #[.int .i64 (mat q1m (k % 4).toNat 0), .int .i64 (mat q1m (k % 4).toNat 1), .int .i64 (mat q1m (k % 4).toNat 2), .int .i64 (mat q1m (k % 4).toNat 3), .int .i64 (mat q1m (k % 4).toNat 4), .int .i64 (mat q1m (k % 4).toNat 5), .int .i64 (mat q1m (k % 4).toNat 6), .int .i64 (mat q1m (k % 4).toNat 7), .int .i64 (mat q1m (k % 4).toNat 8), .int .i64 (0), .int .i64 (0), .int .i64 (0)]) ∧ Below w.heap.size w w' := by
  obtain ⟨n, hn⟩ : ∃ n : Nat, n = (k % 4).toNat := ⟨_, rfl⟩
  have hn3 : n ≤ 3 := by omega
  have HN := Lib.hid (show k % 4 = (n : Int) by omega)
  rw [← hn]
  clear hn
  have hq : fdZ k 4 = k / 4 := fdZ_pos (by omega)
  have H := Lib.hid (floorS k 4 h1 h2)
  obtain ⟨z, hz⟩ : ∃ z, z = fdZ k 4 := ⟨_, rfl⟩
  rw [← hz] at H hq
  have h51 : -9223372036854775808 ≤ z * 4 := by omega
  have h52 : z * 4 ≤ 9223372036854775807 := by omega
  have H4 := Lib.hid (show k - z * 4 = (n : Int) by have := HN.out; omega)
  have h61 : -9223372036854775808 ≤ k - z * 4 := by omega
  have h62 : k - z * 4 ≤ 9223372036854775807 := by omega
  clear hq hz
  have hB := below1 w (.cells #[.int .i64 (0), .int .i64 (0), .int .i64 (0), .int .i64 (0), .int .i64 (0), .int .i64 (0), .int .i64 (0), .int .i64 (0), .int .i64 (0), .int .i64 (0), .int .i64 (0), .int .i64 (0)] 56)
  have b0 := Blk.new w 56 #[.int .i64 (0), .int .i64 (0), .int .i64 (0), .int .i64 (0), .int .i64 (0), .int .i64 (0), .int .i64 (0), .int .i64 (0), .int .i64 (0), .int .i64 (0), .int .i64 (0), .int .i64 (0)]
  go_enter Try.func32, Try.ntmps32
  go_wp2_with fail
  generalize w.alloc (.cells #[.int .i64 (0), .int .i64 (0), .int .i64 (0), .int .i64 (0), .int .i64 (0), .int .i64 (0), .int .i64 (0), .int .i64 (0), .int .i64 (0), .int .i64 (0), .int .i64 (0), .int .i64 (0)] 56) = W0 at hB b0 ⊢
  have c0 := b0.cell
  have f0 := b0.frozen
  have l0 := b0.lt
  refine (identityS _).mono ?_
  rintro e w1 ⟨rfl, hb⟩
  have hB := (by with_reducible first | exact b_keep hb hB | exact b_keep hb hB.drew)
  replace b0 : Blk w1 _ _ _ := (by with_reducible first | exact Blk.keep hb b0 | exact Blk.keep hb b0.drew)
  replace l0 := b0.lt
  replace c0 := b0.cell
  replace f0 := b0.frozen
  clear hb
  go_wp2_with fail
  have d1_0 := b0.lt
  have g1 := hB.size
  replace b0 := b0.alloc (.cells #[.int .i64 (16), .int .i64 (0), .int .i64 (0), .int .i64 (0), .int .i64 (16), .int .i64 (0), .int .i64 (0), .int .i64 (0), .int .i64 (16), .int .i64 (0), .int .i64 (0), .int .i64 (0)] 56)
  have b1 := Blk.new w1 56 #[.int .i64 (16), .int .i64 (0), .int .i64 (0), .int .i64 (0), .int .i64 (16), .int .i64 (0), .int .i64 (0), .int .i64 (0), .int .i64 (16), .int .i64 (0), .int .i64 (0), .int .i64 (0)]
  replace hB := hB.alloc hB.size (.cells #[.int .i64 (16), .int .i64 (0), .int .i64 (0), .int .i64 (0), .int .i64 (16), .int .i64 (0), .int .i64 (0), .int .i64 (0), .int .i64 (16), .int .i64 (0), .int .i64 (0), .int .i64 (0)] 56)
  clear c0 f0 l0
  generalize w1.heap.size = q1 at b1 g1 d1_0 ⊢
  generalize w1.alloc (.cells #[.int .i64 (16), .int .i64 (0), .int .i64 (0), .int .i64 (0), .int .i64 (16), .int .i64 (0), .int .i64 (0), .int .i64 (0), .int .i64 (16), .int .i64 (0), .int .i64 (0), .int .i64 (0)] 56) = W1 at hB b0 b1 ⊢
  have c0 := b0.cell
  have f0 := b0.frozen
  have l0 := b0.lt
  have c1 := b1.cell
  have f1 := b1.frozen
  have l1 := b1.lt
  refine (l01In_any _ _ _ _).mono ?_
  rintro e w2 ⟨rfl, rfl⟩
  generalize hin : inB 1 0 2 = bb
  obtain rfl : bb = true := by rw [← hin]; rfl
  clear hin
  go_wp2_with fail
  refine (H.out _).mono ?_
  rintro e w2 ⟨rfl, rfl⟩
  go_wp2
  go_loopw [6] (fun s wr => ∃ r : Nat, r ≤ n ∧ s = .int .i64 r ∧ Blk wr w.heap.size 56 #[.int .i64 (0), .int .i64 (0), .int .i64 (0), .int .i64 (0), .int .i64 (0), .int .i64 (0), .int .i64 (0), .int .i64 (0), .int .i64 (0), .int .i64 (0), .int .i64 (0), .int .i64 (0)] ∧ Blk wr q1 56 #[.int .i64 (mat q1m (n - r) 0), .int .i64 (mat q1m (n - r) 1), .int .i64 (mat q1m (n - r) 2), .int .i64 (mat q1m (n - r) 3), .int .i64 (mat q1m (n - r) 4), .int .i64 (mat q1m (n - r) 5), .int .i64 (mat q1m (n - r) 6), .int .i64 (mat q1m (n - r) 7), .int .i64 (mat q1m (n - r) 8), .int .i64 (0), .int .i64 (0), .int .i64 (0)] ∧ Below w.heap.size w wr) (fun s _ => (intOf s).toNat)
  case atStart => exact ⟨n, Nat.le_refl _, by rw [H4.out], b0, (by rw [Nat.sub_self]; exact b1), hB⟩
  case round =>
    clear hB b0 b1 c0 f0 l0 c1 f1 l1
    obtain ⟨r, hr, rfl, b0, b1, hB⟩ := hrel
    by_cases hr0 : 0 < r
    · obtain ⟨m, hm⟩ : ∃ m, m = n - r := ⟨_, rfl⟩
      rw [← hm] at b1
      have hm3 : m ≤ 3 := by omega
      have HM := Lib.hid (show n - (r - 1) = m + 1 by omega)
      have hr1 : r - 1 ≤ n := by omega
      have hri : (0 : Int) < (r : Int) := by omega
      have HR := Lib.hid (show (r : Int) - 1 = ((r - 1 : Nat) : Int) by omega)
      have hr3 : (r : Int) ≤ 3 := by omega
      clear hm
      have c0 := b0.cell
      have f0 := b0.frozen
      have l0 := b0.lt
      have c1 := b1.cell
      have f1 := b1.frozen
      have l1 := b1.lt
      go_wp2_with fail
      refine wp_region_tail (S := fun w' => (∀ i, w'.cell? ⟨q1, i, none⟩ = (#[.int .i64 (mat q1m m 0), .int .i64 (mat q1m m 1), .int .i64 (mat q1m m 2), .int .i64 (mat q1m m 3), .int .i64 (mat q1m m 4), .int .i64 (mat q1m m 5), .int .i64 (mat q1m m 6), .int .i64 (mat q1m m 7), .int .i64 (mat q1m m 8), .int .i64 (0), .int .i64 (0), .int .i64 (0)] : Array Value)[i]?)) 5 (by kernel_rfl) (by kernel_rfl) b1.drew.cell (fun hHeld => ?_)
      refine wpAnyH_take (i := 0) (v := ?v0) rfl (by kernel_rfl) (by kernel_rfl) (by kernel_rfl) (fun _ _ _ h => h) (Or.inl ⟨by rfl, ?y0⟩) (by assumption) ?r0
      case y0 => intro W hSw; (try dsimp only at hSw); go_simp; try with_reducible rfl
      try simp only [Act.put]
      try simp only [List.setIfInBounds_toArray]
      try simp only [List.set_cons_succ]
      try simp only [List.set_cons_zero]
      refine wpAnyH_take (i := 2) (v := ?v2) rfl (by kernel_rfl) (by kernel_rfl) (by kernel_rfl) (fun _ _ _ h => h) (Or.inl ⟨by rfl, ?y2⟩) (by assumption) ?r2
      case y2 => intro W hSw; (try dsimp only at hSw); go_simp; try with_reducible rfl
      try simp only [Act.put]
      try simp only [List.setIfInBounds_toArray]
      try simp only [List.set_cons_succ]
      try simp only [List.set_cons_zero]
      refine wpAnyH_take (i := 3) (v := ?v3) rfl (by kernel_rfl) (by kernel_rfl) (by kernel_rfl) (fun _ _ _ h => h) (Or.inl ⟨by rfl, ?y3⟩) (by assumption) ?r3
      case y3 => intro W hSw; (try dsimp only at hSw); go_simp; try with_reducible rfl
      try simp only [Act.put]
      try simp only [List.setIfInBounds_toArray]
      try simp only [List.set_cons_succ]
      try simp only [List.set_cons_zero]
      refine wpAnyH_ready (rs := [1]) (by kernel_rfl) (by simp) ?_
      refine AllReadyH.cons rfl (fun K hK => ?_) AllReadyH.nil
      go_simp
      (go_at_call 75; refine (quarter1 _).mono ?_; rintro e w1 ⟨rfl, hb⟩; have hB := (by with_reducible first | exact b_keep hb hB | exact b_keep hb hB.drew); replace b0 : Blk w1 _ _ _ := (by with_reducible first | exact Blk.keep hb b0 | exact Blk.keep hb b0.drew); replace b1 : Blk w1 _ _ _ := (by with_reducible first | exact Blk.keep hb b1 | exact Blk.keep hb b1.drew); replace l0 := b0.lt; replace l1 := b1.lt; replace c0 := b0.cell; replace c1 := b1.cell; replace f0 := b0.frozen; replace f1 := b1.frozen)
      refine hK.out _ _ b1.cell (fun hHeld => ?_)
      clear hK K
      try simp only [Act.put]
      try simp only [List.setIfInBounds_toArray]
      try simp only [List.set_cons_succ]
      try simp only [List.set_cons_zero]
      refine wpAnyH_ready (rs := [4]) (by kernel_rfl) (by simp) ?_
      refine AllReadyH.cons rfl (fun K hK => ?_) AllReadyH.nil
      go_simp
      (go_at_call 74; refine (stepquartS1 hm3 _).mono ?_; rintro e w1 ⟨rfl, hb⟩; have hB := (by with_reducible first | exact b_keep hb hB | exact b_keep hb hB.drew); replace b0 : Blk w1 _ _ _ := (by with_reducible first | exact Blk.keep hb b0 | exact Blk.keep hb b0.drew); replace b1 : Blk w1 _ _ _ := (by with_reducible first | exact Blk.keep hb b1 | exact Blk.keep hb b1.drew); replace l0 := b0.lt; replace l1 := b1.lt; replace c0 := b0.cell; replace c1 := b1.cell; replace f0 := b0.frozen; replace f1 := b1.frozen)
      refine hK.out _ _ b1.cell (fun hHeld => ?_)
      clear hK K
      try simp only [Act.put]
      try simp only [List.setIfInBounds_toArray]
      try simp only [List.set_cons_succ]
      try simp only [List.set_cons_zero]
      refine wpAnyH_done (by kernel_rfl) ?_ _
      simp only [withNormal, List.drop_succ_cons, List.drop_zero]
      go_wp2
      go_roundw
      case rel => exact ⟨r - 1, hr1, by first | (rw [← HR.out]; done) | (rw [← HR.out]; go_num), b0.far9 (by omega) _ _ _ _ _ _ _ _ _, (by rw [HM.out]; exact b1.set9 _ _ _ _ _ _ _ _ _), below_set9 hB (by omega) _ _ _ _ _ _ _ _ _⟩
      case measure => simp [intOf]; omega
    · obtain rfl : r = 0 := by omega
      rw [Nat.sub_zero] at b1
      have c0 := b0.cell
      have f0 := b0.frozen
      have l0 := b0.lt
      have c1 := b1.cell
      have f1 := b1.frozen
      have l1 := b1.lt
      go_wp2
      exact bodyPost_ret (v := .agg #[.int .i64 (mat q1m n 0), .int .i64 (mat q1m n 1), .int .i64 (mat q1m n 2), .int .i64 (mat q1m n 3), .int .i64 (mat q1m n 4), .int .i64 (mat q1m n 5), .int .i64 (mat q1m n 6), .int .i64 (mat q1m n 7), .int .i64 (mat q1m n 8), .int .i64 (0), .int .i64 (0), .int .i64 (0)]) (by simp [results, Try.results32, go_sem, c0]) rfl ⟨rfl, ((((((((((((hB.setCell (by dsimp only; omega) _).setCell (by dsimp only; omega) _).setCell (by dsimp only; omega) _).setCell (by dsimp only; omega) _).setCell (by dsimp only; omega) _).setCell (by dsimp only; omega) _).setCell (by dsimp only; omega) _).setCell (by dsimp only; omega) _).setCell (by dsimp only; omega) _).setCell (by dsimp only; omega) _).setCell (by dsimp only; omega) _).setCell (by dsimp only; omega) _)⟩
set_option maxHeartbeats 2000000 in
theorem quartS2 (k : Int) (h1 : -9223372036854775808 ≤ k) (h2 : k ≤ 9223372036854775807) (w : World) :
    Calls Try.prog 32 #[.int .i64 2, .int .i64 k] w fun e w' => e = .returned (.agg #[.int .i64 (mat q2m (k % 4).toNat 0), .int .i64 (mat q2m (k % 4).toNat 1), .int .i64 (mat q2m (k % 4).toNat 2), .int .i64 (mat q2m (k % 4).toNat 3), .int .i64 (mat q2m (k % 4).toNat 4), .int .i64 (mat q2m (k % 4).toNat 5), .int .i64 (mat q2m (k % 4).toNat 6), .int .i64 (mat q2m (k % 4).toNat 7), .int .i64 (mat q2m (k % 4).toNat 8), .int .i64 (0), .int .i64 (0), .int .i64 (0)]) ∧ Below w.heap.size w w' := by
  obtain ⟨n, hn⟩ : ∃ n : Nat, n = (k % 4).toNat := ⟨_, rfl⟩
  have hn3 : n ≤ 3 := by omega
  have HN := Lib.hid (show k % 4 = (n : Int) by omega)
  rw [← hn]
  clear hn
  have hq : fdZ k 4 = k / 4 := fdZ_pos (by omega)
  have H := Lib.hid (floorS k 4 h1 h2)
  obtain ⟨z, hz⟩ : ∃ z, z = fdZ k 4 := ⟨_, rfl⟩
  rw [← hz] at H hq
  have h51 : -9223372036854775808 ≤ z * 4 := by omega
  have h52 : z * 4 ≤ 9223372036854775807 := by omega
  have H4 := Lib.hid (show k - z * 4 = (n : Int) by have := HN.out; omega)
  have h61 : -9223372036854775808 ≤ k - z * 4 := by omega
  have h62 : k - z * 4 ≤ 9223372036854775807 := by omega
  clear hq hz
  have hB := below1 w (.cells #[.int .i64 (0), .int .i64 (0), .int .i64 (0), .int .i64 (0), .int .i64 (0), .int .i64 (0), .int .i64 (0), .int .i64 (0), .int .i64 (0), .int .i64 (0), .int .i64 (0), .int .i64 (0)] 56)
  have b0 := Blk.new w 56 #[.int .i64 (0), .int .i64 (0), .int .i64 (0), .int .i64 (0), .int .i64 (0), .int .i64 (0), .int .i64 (0), .int .i64 (0), .int .i64 (0), .int .i64 (0), .int .i64 (0), .int .i64 (0)]
  go_enter Try.func32, Try.ntmps32
  go_wp2_with fail
  generalize w.alloc (.cells #[.int .i64 (0), .int .i64 (0), .int .i64 (0), .int .i64 (0), .int .i64 (0), .int .i64 (0), .int .i64 (0), .int .i64 (0), .int .i64 (0), .int .i64 (0), .int .i64 (0), .int .i64 (0)] 56) = W0 at hB b0 ⊢
  have c0 := b0.cell
  have f0 := b0.frozen
  have l0 := b0.lt
  refine (identityS _).mono ?_
  rintro e w1 ⟨rfl, hb⟩
  have hB := (by with_reducible first | exact b_keep hb hB | exact b_keep hb hB.drew)
  replace b0 : Blk w1 _ _ _ := (by with_reducible first | exact Blk.keep hb b0 | exact Blk.keep hb b0.drew)
  replace l0 := b0.lt
  replace c0 := b0.cell
  replace f0 := b0.frozen
  clear hb
  go_wp2_with fail
  have d1_0 := b0.lt
  have g1 := hB.size
  replace b0 := b0.alloc (.cells #[.int .i64 (16), .int .i64 (0), .int .i64 (0), .int .i64 (0), .int .i64 (16), .int .i64 (0), .int .i64 (0), .int .i64 (0), .int .i64 (16), .int .i64 (0), .int .i64 (0), .int .i64 (0)] 56)
  have b1 := Blk.new w1 56 #[.int .i64 (16), .int .i64 (0), .int .i64 (0), .int .i64 (0), .int .i64 (16), .int .i64 (0), .int .i64 (0), .int .i64 (0), .int .i64 (16), .int .i64 (0), .int .i64 (0), .int .i64 (0)]
  replace hB := hB.alloc hB.size (.cells #[.int .i64 (16), .int .i64 (0), .int .i64 (0), .int .i64 (0), .int .i64 (16), .int .i64 (0), .int .i64 (0), .int .i64 (0), .int .i64 (16), .int .i64 (0), .int .i64 (0), .int .i64 (0)] 56)
  clear c0 f0 l0
  generalize w1.heap.size = q1 at b1 g1 d1_0 ⊢
  generalize w1.alloc (.cells #[.int .i64 (16), .int .i64 (0), .int .i64 (0), .int .i64 (0), .int .i64 (16), .int .i64 (0), .int .i64 (0), .int .i64 (0), .int .i64 (16), .int .i64 (0), .int .i64 (0), .int .i64 (0)] 56) = W1 at hB b0 b1 ⊢
  have c0 := b0.cell
  have f0 := b0.frozen
  have l0 := b0.lt
  have c1 := b1.cell
  have f1 := b1.frozen
  have l1 := b1.lt
  refine (l01In_any _ _ _ _).mono ?_
  rintro e w2 ⟨rfl, rfl⟩
  generalize hin : inB 2 0 2 = bb
  obtain rfl : bb = true := by rw [← hin]; rfl
  clear hin
  go_wp2_with fail
  refine (H.out _).mono ?_
  rintro e w2 ⟨rfl, rfl⟩
  go_wp2
  go_loopw [6] (fun s wr => ∃ r : Nat, r ≤ n ∧ s = .int .i64 r ∧ Blk wr w.heap.size 56 #[.int .i64 (0), .int .i64 (0), .int .i64 (0), .int .i64 (0), .int .i64 (0), .int .i64 (0), .int .i64 (0), .int .i64 (0), .int .i64 (0), .int .i64 (0), .int .i64 (0), .int .i64 (0)] ∧ Blk wr q1 56 #[.int .i64 (mat q2m (n - r) 0), .int .i64 (mat q2m (n - r) 1), .int .i64 (mat q2m (n - r) 2), .int .i64 (mat q2m (n - r) 3), .int .i64 (mat q2m (n - r) 4), .int .i64 (mat q2m (n - r) 5), .int .i64 (mat q2m (n - r) 6), .int .i64 (mat q2m (n - r) 7), .int .i64 (mat q2m (n - r) 8), .int .i64 (0), .int .i64 (0), .int .i64 (0)] ∧ Below w.heap.size w wr) (fun s _ => (intOf s).toNat)
  case atStart => exact ⟨n, Nat.le_refl _, by rw [H4.out], b0, (by rw [Nat.sub_self]; exact b1), hB⟩
  case round =>
    clear hB b0 b1 c0 f0 l0 c1 f1 l1
    obtain ⟨r, hr, rfl, b0, b1, hB⟩ := hrel
    by_cases hr0 : 0 < r
    · obtain ⟨m, hm⟩ : ∃ m, m = n - r := ⟨_, rfl⟩
      rw [← hm] at b1
      have hm3 : m ≤ 3 := by omega
      have HM := Lib.hid (show n - (r - 1) = m + 1 by omega)
      have hr1 : r - 1 ≤ n := by omega
      have hri : (0 : Int) < (r : Int) := by omega
      have HR := Lib.hid (show (r : Int) - 1 = ((r - 1 : Nat) : Int) by omega)
      have hr3 : (r : Int) ≤ 3 := by omega
      clear hm
      have c0 := b0.cell
      have f0 := b0.frozen
      have l0 := b0.lt
      have c1 := b1.cell
      have f1 := b1.frozen
      have l1 := b1.lt
      go_wp2_with fail
      refine wp_region_tail (S := fun w' => (∀ i, w'.cell? ⟨q1, i, none⟩ = (#[.int .i64 (mat q2m m 0), .int .i64 (mat q2m m 1), .int .i64 (mat q2m m 2), .int .i64 (mat q2m m 3), .int .i64 (mat q2m m 4), .int .i64 (mat q2m m 5), .int .i64 (mat q2m m 6), .int .i64 (mat q2m m 7), .int .i64 (mat q2m m 8), .int .i64 (0), .int .i64 (0), .int .i64 (0)] : Array Value)[i]?)) 5 (by kernel_rfl) (by kernel_rfl) b1.drew.cell (fun hHeld => ?_)
      refine wpAnyH_take (i := 0) (v := ?v0) rfl (by kernel_rfl) (by kernel_rfl) (by kernel_rfl) (fun _ _ _ h => h) (Or.inl ⟨by rfl, ?y0⟩) (by assumption) ?r0
      case y0 => intro W hSw; (try dsimp only at hSw); go_simp; try with_reducible rfl
      try simp only [Act.put]
      try simp only [List.setIfInBounds_toArray]
      try simp only [List.set_cons_succ]
      try simp only [List.set_cons_zero]
      refine wpAnyH_take (i := 2) (v := ?v2) rfl (by kernel_rfl) (by kernel_rfl) (by kernel_rfl) (fun _ _ _ h => h) (Or.inl ⟨by rfl, ?y2⟩) (by assumption) ?r2
      case y2 => intro W hSw; (try dsimp only at hSw); go_simp; try with_reducible rfl
      try simp only [Act.put]
      try simp only [List.setIfInBounds_toArray]
      try simp only [List.set_cons_succ]
      try simp only [List.set_cons_zero]
      refine wpAnyH_take (i := 3) (v := ?v3) rfl (by kernel_rfl) (by kernel_rfl) (by kernel_rfl) (fun _ _ _ h => h) (Or.inl ⟨by rfl, ?y3⟩) (by assumption) ?r3
      case y3 => intro W hSw; (try dsimp only at hSw); go_simp; try with_reducible rfl
      try simp only [Act.put]
      try simp only [List.setIfInBounds_toArray]
      try simp only [List.set_cons_succ]
      try simp only [List.set_cons_zero]
      refine wpAnyH_ready (rs := [1]) (by kernel_rfl) (by simp) ?_
      refine AllReadyH.cons rfl (fun K hK => ?_) AllReadyH.nil
      go_simp
      (go_at_call 75; refine (quarter2 _).mono ?_; rintro e w1 ⟨rfl, hb⟩; have hB := (by with_reducible first | exact b_keep hb hB | exact b_keep hb hB.drew); replace b0 : Blk w1 _ _ _ := (by with_reducible first | exact Blk.keep hb b0 | exact Blk.keep hb b0.drew); replace b1 : Blk w1 _ _ _ := (by with_reducible first | exact Blk.keep hb b1 | exact Blk.keep hb b1.drew); replace l0 := b0.lt; replace l1 := b1.lt; replace c0 := b0.cell; replace c1 := b1.cell; replace f0 := b0.frozen; replace f1 := b1.frozen)
      refine hK.out _ _ b1.cell (fun hHeld => ?_)
      clear hK K
      try simp only [Act.put]
      try simp only [List.setIfInBounds_toArray]
      try simp only [List.set_cons_succ]
      try simp only [List.set_cons_zero]
      refine wpAnyH_ready (rs := [4]) (by kernel_rfl) (by simp) ?_
      refine AllReadyH.cons rfl (fun K hK => ?_) AllReadyH.nil
      go_simp
      (go_at_call 74; refine (stepquartS2 hm3 _).mono ?_; rintro e w1 ⟨rfl, hb⟩; have hB := (by with_reducible first | exact b_keep hb hB | exact b_keep hb hB.drew); replace b0 : Blk w1 _ _ _ := (by with_reducible first | exact Blk.keep hb b0 | exact Blk.keep hb b0.drew); replace b1 : Blk w1 _ _ _ := (by with_reducible first | exact Blk.keep hb b1 | exact Blk.keep hb b1.drew); replace l0 := b0.lt; replace l1 := b1.lt; replace c0 := b0.cell; replace c1 := b1.cell; replace f0 := b0.frozen; replace f1 := b1.frozen)
      refine hK.out _ _ b1.cell (fun hHeld => ?_)
      clear hK K
      try simp only [Act.put]
      try simp only [List.setIfInBounds_toArray]
      try simp only [List.set_cons_succ]
      try simp only [List.set_cons_zero]
      refine wpAnyH_done (by kernel_rfl) ?_ _
      simp only [withNormal, List.drop_succ_cons, List.drop_zero]
      go_wp2
      go_roundw
      case rel => exact ⟨r - 1, hr1, by first | (rw [← HR.out]; done) | (rw [← HR.out]; go_num), b0.far9 (by omega) _ _ _ _ _ _ _ _ _, (by rw [HM.out]; exact b1.set9 _ _ _ _ _ _ _ _ _), below_set9 hB (by omega) _ _ _ _ _ _ _ _ _⟩
      case measure => simp [intOf]; omega
    · obtain rfl : r = 0 := by omega
      rw [Nat.sub_zero] at b1
      have c0 := b0.cell
      have f0 := b0.frozen
      have l0 := b0.lt
      have c1 := b1.cell
      have f1 := b1.frozen
      have l1 := b1.lt
      go_wp2
      exact bodyPost_ret (v := .agg #[.int .i64 (mat q2m n 0), .int .i64 (mat q2m n 1), .int .i64 (mat q2m n 2), .int .i64 (mat q2m n 3), .int .i64 (mat q2m n 4), .int .i64 (mat q2m n 5), .int .i64 (mat q2m n 6), .int .i64 (mat q2m n 7), .int .i64 (mat q2m n 8), .int .i64 (0), .int .i64 (0), .int .i64 (0)]) (by simp [results, Try.results32, go_sem, c0]) rfl ⟨rfl, ((((((((((((hB.setCell (by dsimp only; omega) _).setCell (by dsimp only; omega) _).setCell (by dsimp only; omega) _).setCell (by dsimp only; omega) _).setCell (by dsimp only; omega) _).setCell (by dsimp only; omega) _).setCell (by dsimp only; omega) _).setCell (by dsimp only; omega) _).setCell (by dsimp only; omega) _).setCell (by dsimp only; omega) _).setCell (by dsimp only; omega) _).setCell (by dsimp only; omega) _)⟩
set_option maxHeartbeats 2000000 in
theorem quartSx (axis : Int) (ha : inB axis 0 2 = false) (k : Int) (w : World) :
    Calls Try.prog 32 #[.int .i64 axis, .int .i64 k] w fun e w' => e = .returned (.agg #[.int .i64 (16), .int .i64 (0), .int .i64 (0), .int .i64 (0), .int .i64 (16), .int .i64 (0), .int .i64 (0), .int .i64 (0), .int .i64 (16), .int .i64 (0), .int .i64 (0), .int .i64 (0)]) ∧ Below w.heap.size w w' := by
  have hB := below1 w (.cells #[.int .i64 (0), .int .i64 (0), .int .i64 (0), .int .i64 (0), .int .i64 (0), .int .i64 (0), .int .i64 (0), .int .i64 (0), .int .i64 (0), .int .i64 (0), .int .i64 (0), .int .i64 (0)] 56)
  have b0 := Blk.new w 56 #[.int .i64 (0), .int .i64 (0), .int .i64 (0), .int .i64 (0), .int .i64 (0), .int .i64 (0), .int .i64 (0), .int .i64 (0), .int .i64 (0), .int .i64 (0), .int .i64 (0), .int .i64 (0)]
  go_enter Try.func32, Try.ntmps32
  go_wp2_with fail
  generalize w.alloc (.cells #[.int .i64 (0), .int .i64 (0), .int .i64 (0), .int .i64 (0), .int .i64 (0), .int .i64 (0), .int .i64 (0), .int .i64 (0), .int .i64 (0), .int .i64 (0), .int .i64 (0), .int .i64 (0)] 56) = W0 at hB b0 ⊢
  have c0 := b0.cell
  have f0 := b0.frozen
  have l0 := b0.lt
  refine (identityS _).mono ?_
  rintro e w1 ⟨rfl, hb⟩
  have hB := (by with_reducible first | exact b_keep hb hB | exact b_keep hb hB.drew)
  replace b0 : Blk w1 _ _ _ := (by with_reducible first | exact Blk.keep hb b0 | exact Blk.keep hb b0.drew)
  replace l0 := b0.lt
  replace c0 := b0.cell
  replace f0 := b0.frozen
  clear hb
  go_wp2_with fail
  have d1_0 := b0.lt
  have g1 := hB.size
  replace b0 := b0.alloc (.cells #[.int .i64 (16), .int .i64 (0), .int .i64 (0), .int .i64 (0), .int .i64 (16), .int .i64 (0), .int .i64 (0), .int .i64 (0), .int .i64 (16), .int .i64 (0), .int .i64 (0), .int .i64 (0)] 56)
  have b1 := Blk.new w1 56 #[.int .i64 (16), .int .i64 (0), .int .i64 (0), .int .i64 (0), .int .i64 (16), .int .i64 (0), .int .i64 (0), .int .i64 (0), .int .i64 (16), .int .i64 (0), .int .i64 (0), .int .i64 (0)]
  replace hB := hB.alloc hB.size (.cells #[.int .i64 (16), .int .i64 (0), .int .i64 (0), .int .i64 (0), .int .i64 (16), .int .i64 (0), .int .i64 (0), .int .i64 (0), .int .i64 (16), .int .i64 (0), .int .i64 (0), .int .i64 (0)] 56)
  clear c0 f0 l0
  generalize w1.heap.size = q1 at b1 g1 d1_0 ⊢
  generalize w1.alloc (.cells #[.int .i64 (16), .int .i64 (0), .int .i64 (0), .int .i64 (0), .int .i64 (16), .int .i64 (0), .int .i64 (0), .int .i64 (0), .int .i64 (16), .int .i64 (0), .int .i64 (0), .int .i64 (0)] 56) = W1 at hB b0 b1 ⊢
  have c0 := b0.cell
  have f0 := b0.frozen
  have l0 := b0.lt
  have c1 := b1.cell
  have f1 := b1.frozen
  have l1 := b1.lt
  refine (l01In_any _ _ _ _).mono ?_
  rintro e w2 ⟨rfl, rfl⟩
  rw [ha]
  go_wp2
  exact bodyPost_ret (v := .agg #[.int .i64 (16), .int .i64 (0), .int .i64 (0), .int .i64 (0), .int .i64 (16), .int .i64 (0), .int .i64 (0), .int .i64 (0), .int .i64 (16), .int .i64 (0), .int .i64 (0), .int .i64 (0)]) (by simp [results, Try.results32, go_sem, c0]) rfl ⟨rfl, ((((((((((((hB.setCell (by dsimp only; omega) _).setCell (by dsimp only; omega) _).setCell (by dsimp only; omega) _).setCell (by dsimp only; omega) _).setCell (by dsimp only; omega) _).setCell (by dsimp only; omega) _).setCell (by dsimp only; omega) _).setCell (by dsimp only; omega) _).setCell (by dsimp only; omega) _).setCell (by dsimp only; omega) _).setCell (by dsimp only; omega) _).setCell (by dsimp only; omega) _)⟩
theorem quartS (axis k : Int) (h1 : -9223372036854775808 ≤ k) (h2 : k ≤ 9223372036854775807) (w : World) :
    Calls Try.prog 32 #[.int .i64 axis, .int .i64 k] w fun e w' => e = .returned (.agg #[.int .i64 (qt axis k 0), .int .i64 (qt axis k 1), .int .i64 (qt axis k 2), .int .i64 (qt axis k 3), .int .i64 (qt axis k 4), .int .i64 (qt axis k 5), .int .i64 (qt axis k 6), .int .i64 (qt axis k 7), .int .i64 (qt axis k 8), .int .i64 (0), .int .i64 (0), .int .i64 (0)]) ∧ Below w.heap.size w w' := by
  by_cases e0 : axis = 0
  · subst e0
    exact quartS0 k h1 h2 w
  · by_cases e1 : axis = 1
    · subst e1
      exact quartS1 k h1 h2 w
    · by_cases e2 : axis = 2
      · subst e2
        exact quartS2 k h1 h2 w
      · have h := quartSx axis (by unfold inB; simp; omega) k w
        have e : qt axis k = idm := by unfold qt; rw [if_neg e0, if_neg e1, if_neg e2]
        rw [e]
        exact h
end Go.Proofs.Ytobfccoljijnkaa
