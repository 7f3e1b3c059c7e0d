/- Products of matrices of sixteenths, of the program and of the reference. -/
import Derived.Test.YtobfccoljijnkaaNum
import Derived.Test.YtobfccoljijnkaaBlk
import Derived.Test.YtobfccoljijnkaaReg
import Derived.Lib.Hide
import Derived.WalkSmall
import Derived.IntWalk
namespace Go.Proofs.Ytobfccoljijnkaa
open Go.RowKit

/-- Nine ints. -/
def arr9 (f : Nat → Int) : Array Value := #[.int .i64 (f 0), .int .i64 (f 1), .int .i64 (f 2), .int .i64 (f 3), .int .i64 (f 4), .int .i64 (f 5), .int .i64 (f 6), .int .i64 (f 7), .int .i64 (f 8)]
theorem nine {k : Nat} (h : k < 9) : k = 0 ∨ k = 1 ∨ k = 2 ∨ k = 3 ∨ k = 4 ∨ k = 5 ∨ k = 6 ∨ k = 7 ∨ k = 8 := by omega
theorem arr9_at (f : Nat → Int) {k : Nat} (h : k < 9) : (arr9 f)[k]? = some (.int .i64 (f k)) := by
  rcases nine h with rfl | rfl | rfl | rfl | rfl | rfl | rfl | rfl | rfl <;> rfl
theorem arr9_set (f : Nat → Int) {k : Nat} (h : k < 9) (x : Int) : (arr9 f).setIfInBounds k (.int .i64 x) = arr9 (fun j => if j = k then x else f j) := by
  rcases nine h with rfl | rfl | rfl | rfl | rfl | rfl | rfl | rfl | rfl <;> rfl
theorem arr9_congr {f g : Nat → Int} (h : ∀ j, j < 9 → f j = g j) : arr9 f = arr9 g := by
  unfold arr9
  rw [h 0 (by omega), h 1 (by omega), h 2 (by omega), h 3 (by omega), h 4 (by omega), h 5 (by omega), h 6 (by omega), h 7 (by omega), h 8 (by omega)]
/-- The sum of the first t products of row and column of place j. -/
def part (X Y : Nat → Int) (j : Nat) : Nat → Int
  | 0 => 0
  | t + 1 => part X Y j t + X (j / 3 * 3 + t) * Y (3 * t + j % 3)
/-- The product, by 16. -/
def mulR (X Y : Nat → Int) (j : Nat) : Int := (part X Y j 3).tdiv 16
/-- Each of the nine is from -16 to 16. -/
def Small (X : Nat → Int) : Prop := ∀ j, j < 9 → -16 ≤ X j ∧ X j ≤ 16
theorem mul16 {a b : Int} (h1 : -16 ≤ a) (h2 : a ≤ 16) (h3 : -16 ≤ b) (h4 : b ≤ 16) : -256 ≤ a * b ∧ a * b ≤ 256 := by
  have e1 := Int.mul_nonneg (by omega : 0 ≤ 16 - a) (by omega : 0 ≤ 16 - b)
  have e2 := Int.mul_nonneg (by omega : 0 ≤ 16 - a) (by omega : 0 ≤ 16 + b)
  have e3 := Int.mul_nonneg (by omega : 0 ≤ 16 + a) (by omega : 0 ≤ 16 - b)
  have e4 := Int.mul_nonneg (by omega : 0 ≤ 16 + a) (by omega : 0 ≤ 16 + b)
  simp only [Int.sub_mul, Int.mul_sub, Int.add_mul, Int.mul_add] at e1 e2 e3 e4
  omega
theorem part_bd {X Y : Nat → Int} (hX : Small X) (hY : Small Y) {j : Nat} (hj : j < 9) : ∀ t : Nat, t ≤ 3 → -256 * (t : Int) ≤ part X Y j t ∧ part X Y j t ≤ 256 * (t : Int)
  | 0, _ => by simp [part]
  | t + 1, ht => by
    have h1 := part_bd hX hY hj t (by omega)
    have h2 := hX (j / 3 * 3 + t) (by omega)
    have h3 := hY (3 * t + j % 3) (by omega)
    have h4 := mul16 h2.1 h2.2 h3.1 h3.2
    have e : ((t + 1 : Nat) : Int) = (t : Int) + 1 := by omega
    rw [e]
    show -256 * ((t : Int) + 1) ≤ part X Y j t + _ ∧ part X Y j t + _ ≤ _
    omega

set_option maxRecDepth 100000 in
set_option maxHeartbeats 8000000 in
theorem after_any (X Y : Nat → Int) (hX : Small X) (hY : Small Y) (w : World) :
    Calls Try.prog 78 #[.agg #[.int .i64 (X 0), .int .i64 (X 1), .int .i64 (X 2), .int .i64 (X 3), .int .i64 (X 4), .int .i64 (X 5), .int .i64 (X 6), .int .i64 (X 7), .int .i64 (X 8)], .agg #[.int .i64 (Y 0), .int .i64 (Y 1), .int .i64 (Y 2), .int .i64 (Y 3), .int .i64 (Y 4), .int .i64 (Y 5), .int .i64 (Y 6), .int .i64 (Y 7), .int .i64 (Y 8)]] w fun e w' => e = .returned (.agg #[.int .i64 (mulR X Y 0), .int .i64 (mulR X Y 1), .int .i64 (mulR X Y 2), .int .i64 (mulR X Y 3), .int .i64 (mulR X Y 4), .int .i64 (mulR X Y 5), .int .i64 (mulR X Y 6), .int .i64 (mulR X Y 7), .int .i64 (mulR X Y 8)]) ∧ Below w.heap.size w w' := by
  have hB0 := (below3 w (.cells #[.int .i64 (X 0), .int .i64 (X 1), .int .i64 (X 2), .int .i64 (X 3), .int .i64 (X 4), .int .i64 (X 5), .int .i64 (X 6), .int .i64 (X 7), .int .i64 (X 8)] 54) (.cells #[.int .i64 (Y 0), .int .i64 (Y 1), .int .i64 (Y 2), .int .i64 (Y 3), .int .i64 (Y 4), .int .i64 (Y 5), .int .i64 (Y 6), .int .i64 (Y 7), .int .i64 (Y 8)] 54) (.cells #[.int .i64 (0), .int .i64 (0), .int .i64 (0), .int .i64 (0), .int .i64 (0), .int .i64 (0), .int .i64 (0), .int .i64 (0), .int .i64 (0)] 54)).alloc (below3 w (.cells #[.int .i64 (X 0), .int .i64 (X 1), .int .i64 (X 2), .int .i64 (X 3), .int .i64 (X 4), .int .i64 (X 5), .int .i64 (X 6), .int .i64 (X 7), .int .i64 (X 8)] 54) (.cells #[.int .i64 (Y 0), .int .i64 (Y 1), .int .i64 (Y 2), .int .i64 (Y 3), .int .i64 (Y 4), .int .i64 (Y 5), .int .i64 (Y 6), .int .i64 (Y 7), .int .i64 (Y 8)] 54) (.cells #[.int .i64 (0), .int .i64 (0), .int .i64 (0), .int .i64 (0), .int .i64 (0), .int .i64 (0), .int .i64 (0), .int .i64 (0), .int .i64 (0)] 54)).size (.cells #[.int .i64 (0), .int .i64 (0), .int .i64 (0), .int .i64 (0), .int .i64 (0), .int .i64 (0), .int .i64 (0), .int .i64 (0), .int .i64 (0)] 54)
  have b3' := Blk.new (((w.alloc (.cells #[.int .i64 (X 0), .int .i64 (X 1), .int .i64 (X 2), .int .i64 (X 3), .int .i64 (X 4), .int .i64 (X 5), .int .i64 (X 6), .int .i64 (X 7), .int .i64 (X 8)] 54)).alloc (.cells #[.int .i64 (Y 0), .int .i64 (Y 1), .int .i64 (Y 2), .int .i64 (Y 3), .int .i64 (Y 4), .int .i64 (Y 5), .int .i64 (Y 6), .int .i64 (Y 7), .int .i64 (Y 8)] 54)).alloc (.cells #[.int .i64 (0), .int .i64 (0), .int .i64 (0), .int .i64 (0), .int .i64 (0), .int .i64 (0), .int .i64 (0), .int .i64 (0), .int .i64 (0)] 54)) 54 #[.int .i64 (0), .int .i64 (0), .int .i64 (0), .int .i64 (0), .int .i64 (0), .int .i64 (0), .int .i64 (0), .int .i64 (0), .int .i64 (0)]
  obtain ⟨b0', b1', b2'⟩ := blk3 w #[.int .i64 (X 0), .int .i64 (X 1), .int .i64 (X 2), .int .i64 (X 3), .int .i64 (X 4), .int .i64 (X 5), .int .i64 (X 6), .int .i64 (X 7), .int .i64 (X 8)] #[.int .i64 (Y 0), .int .i64 (Y 1), .int .i64 (Y 2), .int .i64 (Y 3), .int .i64 (Y 4), .int .i64 (Y 5), .int .i64 (Y 6), .int .i64 (Y 7), .int .i64 (Y 8)] #[.int .i64 (0), .int .i64 (0), .int .i64 (0), .int .i64 (0), .int .i64 (0), .int .i64 (0), .int .i64 (0), .int .i64 (0), .int .i64 (0)] 54 54 54
  replace b0' := b0'.alloc (.cells #[.int .i64 (0), .int .i64 (0), .int .i64 (0), .int .i64 (0), .int .i64 (0), .int .i64 (0), .int .i64 (0), .int .i64 (0), .int .i64 (0)] 54)
  replace b1' := b1'.alloc (.cells #[.int .i64 (0), .int .i64 (0), .int .i64 (0), .int .i64 (0), .int .i64 (0), .int .i64 (0), .int .i64 (0), .int .i64 (0), .int .i64 (0)] 54)
  replace b2' := b2'.alloc (.cells #[.int .i64 (0), .int .i64 (0), .int .i64 (0), .int .i64 (0), .int .i64 (0), .int .i64 (0), .int .i64 (0), .int .i64 (0), .int .i64 (0)] 54)
  simp only [World.size_alloc] at b3'
  go_enter Try.func78, Try.ntmps78
  go_wp2
  generalize (((w.alloc (.cells #[.int .i64 (X 0), .int .i64 (X 1), .int .i64 (X 2), .int .i64 (X 3), .int .i64 (X 4), .int .i64 (X 5), .int .i64 (X 6), .int .i64 (X 7), .int .i64 (X 8)] 54)).alloc (.cells #[.int .i64 (Y 0), .int .i64 (Y 1), .int .i64 (Y 2), .int .i64 (Y 3), .int .i64 (Y 4), .int .i64 (Y 5), .int .i64 (Y 6), .int .i64 (Y 7), .int .i64 (Y 8)] 54)).alloc (.cells #[.int .i64 (0), .int .i64 (0), .int .i64 (0), .int .i64 (0), .int .i64 (0), .int .i64 (0), .int .i64 (0), .int .i64 (0), .int .i64 (0)] 54)).alloc (.cells #[.int .i64 (0), .int .i64 (0), .int .i64 (0), .int .i64 (0), .int .i64 (0), .int .i64 (0), .int .i64 (0), .int .i64 (0), .int .i64 (0)] 54) = W0 at hB0 b0' b1' b2' b3' ⊢
  go_loopw [8] (fun s wr => ∃ k : Nat, k ≤ 9 ∧ s = .int .i64 k ∧ (∃ f : Nat → Int, Blk wr (w.heap.size + 1 + 1 + 1) 54 (arr9 f) ∧ (∀ j, j < k → f j = mulR X Y j) ∧ ∀ j, k ≤ j → f j = 0) ∧ Blk wr w.heap.size 54 (arr9 X) ∧ Blk wr (w.heap.size + 1) 54 (arr9 Y) ∧ Blk wr (w.heap.size + 1 + 1) 54 #[.int .i64 (0), .int .i64 (0), .int .i64 (0), .int .i64 (0), .int .i64 (0), .int .i64 (0), .int .i64 (0), .int .i64 (0), .int .i64 (0)] ∧ Below w.heap.size w wr) (fun s _ => 9 - (intOf s).toNat)
  case atStart => exact ⟨0, by omega, rfl, ⟨fun _ => 0, b3', fun j hj => absurd hj (by omega), fun _ _ => rfl⟩, b0', b1', b2', hB0⟩
  case round =>
    obtain ⟨k, hk, rfl, ⟨f, b3, hf1, hf2⟩, b0, b1, b2, hB⟩ := hrel
    clear hB0 b0' b1' b2' b3'
    by_cases hlt : k < 9
    · have hk0 : (0 : Int) ≤ (k : Int) := by omega
      have hk1 : (k : Int) < 9 := by omega
      have F1 := Lib.hid hf1
      have F2 := Lib.hid hf2
      have B3 := Lib.hid b3
      have B0 := Lib.hid b0
      have B1 := Lib.hid b1
      have B2 := Lib.hid b2
      have HB := Lib.hid hB
      clear hf1 hf2 b0 b1 b2 b3 hB
      go_wp2
      obtain ⟨wo, rfl⟩ : ∃ wo : World, wo = wr := ⟨_, rfl⟩
      go_loopw [7] (fun s wr => ∃ t : Nat, t ≤ 3 ∧ s = .int .i64 t ∧ Blk wr (w.heap.size + 1 + 1 + 1) 54 (arr9 (fun j => if j = k then part X Y k t else f j)) ∧ Blk wr w.heap.size 54 (arr9 X) ∧ Blk wr (w.heap.size + 1) 54 (arr9 Y) ∧ Blk wr (w.heap.size + 1 + 1) 54 #[.int .i64 (0), .int .i64 (0), .int .i64 (0), .int .i64 (0), .int .i64 (0), .int .i64 (0), .int .i64 (0), .int .i64 (0), .int .i64 (0)] ∧ Below w.heap.size w wr) (fun s _ => 3 - (intOf s).toNat)
      case atStart => exact ⟨0, by omega, rfl, by rw [show (arr9 fun j => if j = k then part X Y k 0 else f j) = arr9 f from arr9_congr (fun j _ => by by_cases h : j = k <;> simp [h, part, F2.out k (Nat.le_refl _)])]; exact B3.out, B0.out, B1.out, B2.out, HB.out⟩
      case round =>
        obtain ⟨t, ht, rfl, b3, b0, b1, b2, hB⟩ := hrel
        by_cases htl : t < 3
        · have ht0 : (0 : Int) ≤ (t : Int) := by omega
          have ht1 : (t : Int) < 3 := by omega
          obtain ⟨c3, hc3⟩ : ∃ c : Nat, c = k / 3 := ⟨_, rfl⟩
          obtain ⟨c9, hc9⟩ : ∃ c : Nat, c = c3 * 3 := ⟨_, rfl⟩
          obtain ⟨i1, hi1⟩ : ∃ c : Nat, c = c9 + t := ⟨_, rfl⟩
          obtain ⟨j3, hj3⟩ : ∃ c : Nat, c = 3 * t := ⟨_, rfl⟩
          obtain ⟨kr, hkr⟩ : ∃ c : Nat, c = k % 3 := ⟨_, rfl⟩
          obtain ⟨i2, hi2⟩ : ∃ c : Nat, c = j3 + kr := ⟨_, rfl⟩
          have hpt := part_bd hX hY hlt t ht
          have hx := hX i1 (by omega)
          have hy := hY i2 (by omega)
          have hxy := mul16 hx.1 hx.2 hy.1 hy.2
          have W1 := Lib.hid (show IntKind.i64.wrap ((k : Int) / 3) = (c3 : Int) by rw [IntWalk.i64_in _ (by omega)]; omega)
          have W2 := Lib.hid (show IntKind.i64.wrap ((c3 : Int) * 3) = (c9 : Int) by rw [IntWalk.i64_in _ (by omega)]; omega)
          have W3 := Lib.hid (show IntKind.i64.wrap ((c9 : Int) + (t : Int)) = (i1 : Int) by rw [IntWalk.i64_in _ (by omega)]; omega)
          have W4 := Lib.hid (show IntKind.i64.wrap (3 * (t : Int)) = (j3 : Int) by rw [IntWalk.i64_in _ (by omega)]; omega)
          have W5 := Lib.hid (show (k : Int).tmod 3 = (kr : Int) by rw [Int.tmod_eq_emod_of_nonneg hk0]; omega)
          have W6 := Lib.hid (show IntKind.i64.wrap ((j3 : Int) + (kr : Int)) = (i2 : Int) by rw [IntWalk.i64_in _ (by omega)]; omega)
          have W7 := Lib.hid (show IntKind.i64.wrap (X i1 * Y i2) = X i1 * Y i2 from IntWalk.i64_in _ (by omega))
          have W8 := Lib.hid (show IntKind.i64.wrap (part X Y k t + X i1 * Y i2) = part X Y k t + X i1 * Y i2 from IntWalk.i64_in _ (by omega))
          have W9 := Lib.hid (show part X Y k (t + 1) = part X Y k t + X i1 * Y i2 by rw [hi1, hi2, hc9, hc3, hj3, hkr]; rfl)
          have q0 : (0 : Int) ≤ (i1 : Int) := by omega
          have q1 : (i1 : Int) < 9 := by omega
          have q2 : (0 : Int) ≤ (i2 : Int) := by omega
          have q3 : (i2 : Int) < 9 := by omega
          have D0 := Lib.hid (show (arr9 (fun j => if j = k then part X Y k t else f j))[k]? = some (.int .i64 (part X Y k t)) by rw [arr9_at _ hlt]; simp)
          have D1 := Lib.hid (arr9_at X (by omega : i1 < 9))
          have D2 := Lib.hid (arr9_at Y (by omega : i2 < 9))
          have ht3 : t + 1 ≤ 3 := by omega
          clear hpt hx hy hxy hc3 hc9 hi1 hj3 hkr hi2
          generalize part X Y k t = pt at *
          have w1 := W1.out
          have w2 := W2.out
          have w3 := W3.out
          have w4 := W4.out
          have w5 := W5.out
          have w6 := W6.out
          have w7 := W7.out
          have w8 := W8.out
          go_wp2_with fail
          refine wp_region_tail (S := fun w' => w'.cell? ⟨w.heap.size + 1 + 1 + 1, k, none⟩ = some (.int .i64 pt) ∧ w'.cell? ⟨w.heap.size, i1, none⟩ = some (.int .i64 (X i1)) ∧ w'.cell? ⟨w.heap.size + 1, i2, none⟩ = some (.int .i64 (Y i2))) 20 (by kernel_rfl) (by kernel_rfl) ⟨(b3.drew.cell k).trans D0.out, (b0.drew.cell i1).trans D1.out, (b1.drew.cell i2).trans D2.out⟩ (fun hHeld => ?_)
          refine wpAnyH_take (i := 0) (v := ?v0) rfl (by kernel_rfl) (by kernel_rfl) (by kernel_rfl) (fun _ _ _ h => h) (Or.inl ⟨by rfl, ?y0⟩) (by assumption) ?r0
          case y0 => intro W hSw; (try dsimp only at hSw); go_simp; try with_reducible rfl
          try simp only [Act.put]
          try simp only [List.setIfInBounds_toArray]
          try simp only [List.set_cons_succ]
          try simp only [List.set_cons_zero]
          refine wpAnyH_take (i := 1) (v := ?v1) rfl (by kernel_rfl) (by kernel_rfl) (by kernel_rfl) (fun _ _ _ h => h) (Or.inl ⟨by rfl, ?y1⟩) (by assumption) ?r1
          case y1 => intro W hSw; (try dsimp only at hSw); go_simp; try with_reducible rfl
          try simp only [Act.put]
          try simp only [List.setIfInBounds_toArray]
          try simp only [List.set_cons_succ]
          try simp only [List.set_cons_zero]
          refine wpAnyH_take (i := 2) (v := ?v2) rfl (by kernel_rfl) (by kernel_rfl) (by kernel_rfl) (fun _ _ _ h => h) (Or.inl ⟨by rfl, ?y2⟩) (by assumption) ?r2
          case y2 => intro W hSw; (try dsimp only at hSw); go_simp; try with_reducible rfl
          try simp only [Act.put]
          try simp only [List.setIfInBounds_toArray]
          try simp only [List.set_cons_succ]
          try simp only [List.set_cons_zero]
          refine wpAnyH_take (i := 3) (v := ?v3) rfl (by kernel_rfl) (by kernel_rfl) (by kernel_rfl) (fun _ _ _ h => h) (Or.inl ⟨by rfl, ?y3⟩) (by assumption) ?r3
          case y3 => intro W hSw; (try dsimp only at hSw); go_simp; try with_reducible rfl
          try simp only [Act.put]
          try simp only [List.setIfInBounds_toArray]
          try simp only [List.set_cons_succ]
          try simp only [List.set_cons_zero]
          refine wpAnyH_take (i := 4) (v := ?v4) rfl (by kernel_rfl) (by kernel_rfl) (by kernel_rfl) (fun _ _ _ h => h) (Or.inl ⟨by rfl, ?y4⟩) (by assumption) ?r4
          case y4 => intro W hSw; (try dsimp only at hSw); go_simp; try with_reducible rfl
          try simp only [Act.put]
          try simp only [List.setIfInBounds_toArray]
          try simp only [List.set_cons_succ]
          try simp only [List.set_cons_zero]
          refine wpAnyH_take (i := 5) (v := ?v5) rfl (by kernel_rfl) (by kernel_rfl) (by kernel_rfl) (fun _ _ _ h => h) (Or.inl ⟨by rfl, ?y5⟩) (by assumption) ?r5
          case y5 => intro W hSw; (try dsimp only at hSw); go_simp; try with_reducible rfl
          try simp only [Act.put]
          try simp only [List.setIfInBounds_toArray]
          try simp only [List.set_cons_succ]
          try simp only [List.set_cons_zero]
          refine wpAnyH_take (i := 6) (v := ?v6) rfl (by kernel_rfl) (by kernel_rfl) (by kernel_rfl) (fun _ _ _ h => h) (Or.inl ⟨by rfl, ?y6⟩) (by assumption) ?r6
          case y6 => intro W hSw; (try dsimp only at hSw); go_simp; try with_reducible rfl
          try simp only [Act.put]
          try simp only [List.setIfInBounds_toArray]
          try simp only [List.set_cons_succ]
          try simp only [List.set_cons_zero]
          refine wpAnyH_take (i := 7) (v := ?v7) rfl (by kernel_rfl) (by kernel_rfl) (by kernel_rfl) (fun _ _ _ h => h) (Or.inl ⟨by rfl, ?y7⟩) (by assumption) ?r7
          case y7 => intro W hSw; (try dsimp only at hSw); go_simp; try with_reducible rfl
          try simp only [Act.put]
          try simp only [List.setIfInBounds_toArray]
          try simp only [List.set_cons_succ]
          try simp only [List.set_cons_zero]
          refine wpAnyH_take (i := 8) (v := ?v8) rfl (by kernel_rfl) (by kernel_rfl) (by kernel_rfl) (fun _ _ _ h => h) (Or.inl ⟨by rfl, ?y8⟩) (by assumption) ?r8
          case y8 => intro W hSw; (try dsimp only at hSw); go_simp; try with_reducible rfl
          try simp only [Act.put]
          try simp only [List.setIfInBounds_toArray]
          try simp only [List.set_cons_succ]
          try simp only [List.set_cons_zero]
          refine wpAnyH_take (i := 9) (v := ?v9) rfl (by kernel_rfl) (by kernel_rfl) (by kernel_rfl) (fun _ _ _ h => h) (Or.inl ⟨by rfl, ?y9⟩) (by assumption) ?r9
          case y9 => intro W hSw; (try dsimp only at hSw); go_simp; try with_reducible rfl
          try simp only [Act.put]
          try simp only [List.setIfInBounds_toArray]
          try simp only [List.set_cons_succ]
          try simp only [List.set_cons_zero]
          refine wpAnyH_take (i := 10) (v := ?v10) rfl (by kernel_rfl) (by kernel_rfl) (by kernel_rfl) (fun _ _ _ h => h) (Or.inl ⟨by rfl, ?y10⟩) (by assumption) ?r10
          case y10 => intro W hSw; (try dsimp only at hSw); go_simp; try with_reducible rfl
          try simp only [Act.put]
          try simp only [List.setIfInBounds_toArray]
          try simp only [List.set_cons_succ]
          try simp only [List.set_cons_zero]
          refine wpAnyH_take (i := 11) (v := ?v11) rfl (by kernel_rfl) (by kernel_rfl) (by kernel_rfl) (fun _ _ _ h => h) (Or.inl ⟨by rfl, ?y11⟩) (by assumption) ?r11
          case y11 => intro W hSw; (try dsimp only at hSw); go_simp; try with_reducible rfl
          try simp only [Act.put]
          try simp only [List.setIfInBounds_toArray]
          try simp only [List.set_cons_succ]
          try simp only [List.set_cons_zero]
          refine wpAnyH_take (i := 12) (v := ?v12) rfl (by kernel_rfl) (by kernel_rfl) (by kernel_rfl) (fun _ _ _ h => h) (Or.inl ⟨by rfl, ?y12⟩) (by assumption) ?r12
          case y12 => intro W hSw; (try dsimp only at hSw); go_simp; try with_reducible rfl
          try simp only [Act.put]
          try simp only [List.setIfInBounds_toArray]
          try simp only [List.set_cons_succ]
          try simp only [List.set_cons_zero]
          refine wpAnyH_take (i := 13) (v := ?v13) rfl (by kernel_rfl) (by kernel_rfl) (by kernel_rfl) (fun _ _ _ h => h) (Or.inl ⟨by rfl, ?y13⟩) (by assumption) ?r13
          case y13 => intro W hSw; (try dsimp only at hSw); go_simp; try with_reducible rfl
          try simp only [Act.put]
          try simp only [List.setIfInBounds_toArray]
          try simp only [List.set_cons_succ]
          try simp only [List.set_cons_zero]
          refine wpAnyH_take (i := 14) (v := ?v14) rfl (by kernel_rfl) (by kernel_rfl) (by kernel_rfl) (fun _ _ _ h => h) (Or.inl ⟨by rfl, ?y14⟩) (by assumption) ?r14
          case y14 => intro W hSw; (try dsimp only at hSw); go_simp; try with_reducible rfl
          try simp only [Act.put]
          try simp only [List.setIfInBounds_toArray]
          try simp only [List.set_cons_succ]
          try simp only [List.set_cons_zero]
          refine wpAnyH_take (i := 15) (v := ?v15) rfl (by kernel_rfl) (by kernel_rfl) (by kernel_rfl) (fun _ _ _ h => h) (Or.inl ⟨by rfl, ?y15⟩) (by assumption) ?r15
          case y15 => intro W hSw; (try dsimp only at hSw); go_simp; try with_reducible rfl
          try simp only [Act.put]
          try simp only [List.setIfInBounds_toArray]
          try simp only [List.set_cons_succ]
          try simp only [List.set_cons_zero]
          refine wpAnyH_take (i := 16) (v := ?v16) rfl (by kernel_rfl) (by kernel_rfl) (by kernel_rfl) (fun _ _ _ h => h) (Or.inl ⟨by rfl, ?y16⟩) (by assumption) ?r16
          case y16 => intro W hSw; (try dsimp only at hSw); go_simp; try with_reducible rfl
          try simp only [Act.put]
          try simp only [List.setIfInBounds_toArray]
          try simp only [List.set_cons_succ]
          try simp only [List.set_cons_zero]
          refine wpAnyH_take (i := 17) (v := ?v17) rfl (by kernel_rfl) (by kernel_rfl) (by kernel_rfl) (fun _ _ _ h => h) (Or.inl ⟨by rfl, ?y17⟩) (by assumption) ?r17
          case y17 => intro W hSw; (try dsimp only at hSw); go_simp; try with_reducible rfl
          try simp only [Act.put]
          try simp only [List.setIfInBounds_toArray]
          try simp only [List.set_cons_succ]
          try simp only [List.set_cons_zero]
          refine wpAnyH_take (i := 18) (v := ?v18) rfl (by kernel_rfl) (by kernel_rfl) (by kernel_rfl) (fun _ _ _ h => h) (Or.inl ⟨by rfl, ?y18⟩) (by assumption) ?r18
          case y18 => intro W hSw; (try dsimp only at hSw); go_simp; try with_reducible rfl
          try simp only [Act.put]
          try simp only [List.setIfInBounds_toArray]
          try simp only [List.set_cons_succ]
          try simp only [List.set_cons_zero]
          refine wpAnyH_take (i := 19) (v := ?v19) rfl (by kernel_rfl) (by kernel_rfl) (by kernel_rfl) (fun _ _ _ h => h) (Or.inl ⟨by rfl, ?y19⟩) (by assumption) ?r19
          case y19 => intro W hSw; (try dsimp only at hSw); go_simp; try with_reducible rfl
          try simp only [Act.put]
          try simp only [List.setIfInBounds_toArray]
          try simp only [List.set_cons_succ]
          try simp only [List.set_cons_zero]
          refine wpAnyH_done (by kernel_rfl) ?_ _
          simp only [withNormal, List.drop_succ_cons, List.drop_zero]
          have d3 := (b3.cell k).trans D0.out
          have f3 := b3.frozen k
          clear w1 w2 w3 w4 w5 w6 w7 w8
          go_wp2
          go_roundw
          case rel => exact ⟨t + 1, ht3, by go_num, by rw [show (arr9 fun j => if j = k then part X Y k (t + 1) else f j) = (arr9 fun j => if j = k then pt else f j).setIfInBounds k (.int .i64 (pt + X i1 * Y i2)) from by rw [arr9_set _ hlt, W9.out]; exact arr9_congr (fun j _ => by by_cases h : j = k <;> simp [h])]; exact b3.set_ k _, b0.far (p := ⟨w.heap.size + 1 + 1 + 1, k, none⟩) (by dsimp only; omega) _, b1.far (p := ⟨w.heap.size + 1 + 1 + 1, k, none⟩) (by dsimp only; omega) _, b2.far (p := ⟨w.heap.size + 1 + 1 + 1, k, none⟩) (by dsimp only; omega) _, (hB.setCell (by dsimp only; omega) _).drew⟩
          case measure => simp [intOf]; omega
        · obtain rfl : t = 3 := by omega
          obtain ⟨pt, hpt⟩ : ∃ p, p = part X Y k 3 := ⟨_, rfl⟩
          have hbd := part_bd hX hY hlt 3 (by omega)
          rw [← hpt] at b3 hbd
          have d3 : wr.cell? ⟨w.heap.size + 1 + 1 + 1, k, none⟩ = some (.int .i64 pt) := by rw [b3.cell k, arr9_at _ hlt]; simp
          have f3 := b3.frozen k
          have hr : mulR X Y k = pt.tdiv 16 := by unfold mulR; rw [hpt]
          have HR := Lib.hid hr
          clear hpt hr
          go_wp2
          go_roundw
          case rel => exact ⟨k + 1, by omega, by go_num, ⟨fun j => if j = k then pt.tdiv 16 else f j, by rw [show (arr9 fun j => if j = k then pt.tdiv 16 else f j) = (arr9 fun j => if j = k then pt else f j).setIfInBounds k (.int .i64 (pt.tdiv 16)) from by rw [arr9_set _ hlt]; exact arr9_congr (fun j _ => by by_cases h : j = k <;> simp [h])]; exact b3.set_ k _, fun j hj => by
            by_cases h : j = k
            · subst h; simp [HR.out]
            · simp only [h, if_false]; exact F1.out j (by omega), fun j hj => by show (if j = k then _ else f j) = 0; rw [if_neg (by omega)]; exact F2.out j (by omega)⟩, b0.far (p := ⟨w.heap.size + 1 + 1 + 1, k, none⟩) (by dsimp only; omega) _, b1.far (p := ⟨w.heap.size + 1 + 1 + 1, k, none⟩) (by dsimp only; omega) _, b2.far (p := ⟨w.heap.size + 1 + 1 + 1, k, none⟩) (by dsimp only; omega) _, hB.setCell (by dsimp only; omega) _⟩
          case measure => simp [intOf]; omega
    · obtain rfl : k = 9 := by omega
      replace b3 : Blk wr (w.heap.size + 1 + 1 + 1) 54 #[.int .i64 (mulR X Y 0), .int .i64 (mulR X Y 1), .int .i64 (mulR X Y 2), .int .i64 (mulR X Y 3), .int .i64 (mulR X Y 4), .int .i64 (mulR X Y 5), .int .i64 (mulR X Y 6), .int .i64 (mulR X Y 7), .int .i64 (mulR X Y 8)] := by
        have e : arr9 f = arr9 (mulR X Y) := arr9_congr (fun j hj => hf1 j hj)
        rw [e] at b3
        exact b3
      clear hf1 hf2 b0 b1
      have c2 := b2.cell
      have f2 := b2.frozen
      have l2 := b2.lt
      have c3 := b3.cell
      have f3 := b3.frozen
      have l3 := b3.lt
      go_wp2
      exact bodyPost_ret (v := .agg #[.int .i64 (mulR X Y 0), .int .i64 (mulR X Y 1), .int .i64 (mulR X Y 2), .int .i64 (mulR X Y 3), .int .i64 (mulR X Y 4), .int .i64 (mulR X Y 5), .int .i64 (mulR X Y 6), .int .i64 (mulR X Y 7), .int .i64 (mulR X Y 8)]) (by simp [results, Try.results78, go_sem, c2]) rfl ⟨rfl, (((((((((hB.setCell (by dsimp only; omega) _).setCell (by dsimp only; omega) _).setCell (by dsimp only; omega) _).setCell (by dsimp only; omega) _).setCell (by dsimp only; omega) _).setCell (by dsimp only; omega) _).setCell (by dsimp only; omega) _).setCell (by dsimp only; omega) _).setCell (by dsimp only; omega) _)⟩
end Go.Proofs.Ytobfccoljijnkaa
