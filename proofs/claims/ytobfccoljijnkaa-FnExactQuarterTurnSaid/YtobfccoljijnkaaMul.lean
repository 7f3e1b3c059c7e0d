/- Product of matrices of the reference. -/
import Derived.Test.YtobfccoljijnkaaQuart
namespace Go.Proofs.Ytobfccoljijnkaa
open Go.RowKit

set_option maxRecDepth 100000 in
set_option maxHeartbeats 8000000 in
theorem mul_any (X Y : Nat → Int) (hX : Small X) (hY : Small Y) (w : World) :
    Calls Try.prog 74 #[.agg #[.int .i64 (X 0), .int .i64 (X 1), .int .i64 (X 2), .int .i64 (X 3), .int .i64 (X 4), .int .i64 (X 5), .int .i64 (X 6), .int .i64 (X 7), .int .i64 (X 8)], .agg #[.int .i64 (Y 0), .int .i64 (Y 1), .int .i64 (Y 2), .int .i64 (Y 3), .int .i64 (Y 4), .int .i64 (Y 5), .int .i64 (Y 6), .int .i64 (Y 7), .int .i64 (Y 8)]] w fun e w' => e = .returned (.agg #[.int .i64 (mulR X Y 0), .int .i64 (mulR X Y 1), .int .i64 (mulR X Y 2), .int .i64 (mulR X Y 3), .int .i64 (mulR X Y 4), .int .i64 (mulR X Y 5), .int .i64 (mulR X Y 6), .int .i64 (mulR X Y 7), .int .i64 (mulR X Y 8)]) ∧ Below w.heap.size w w' := by
  have hB0 := (below3 w (.cells #[.int .i64 (X 0), .int .i64 (X 1), .int .i64 (X 2), .int .i64 (X 3), .int .i64 (X 4), .int .i64 (X 5), .int .i64 (X 6), .int .i64 (X 7), .int .i64 (X 8)] 54) (.cells #[.int .i64 (Y 0), .int .i64 (Y 1), .int .i64 (Y 2), .int .i64 (Y 3), .int .i64 (Y 4), .int .i64 (Y 5), .int .i64 (Y 6), .int .i64 (Y 7), .int .i64 (Y 8)] 54) (.cells #[.int .i64 (0), .int .i64 (0), .int .i64 (0), .int .i64 (0), .int .i64 (0), .int .i64 (0), .int .i64 (0), .int .i64 (0), .int .i64 (0)] 54)).alloc (below3 w (.cells #[.int .i64 (X 0), .int .i64 (X 1), .int .i64 (X 2), .int .i64 (X 3), .int .i64 (X 4), .int .i64 (X 5), .int .i64 (X 6), .int .i64 (X 7), .int .i64 (X 8)] 54) (.cells #[.int .i64 (Y 0), .int .i64 (Y 1), .int .i64 (Y 2), .int .i64 (Y 3), .int .i64 (Y 4), .int .i64 (Y 5), .int .i64 (Y 6), .int .i64 (Y 7), .int .i64 (Y 8)] 54) (.cells #[.int .i64 (0), .int .i64 (0), .int .i64 (0), .int .i64 (0), .int .i64 (0), .int .i64 (0), .int .i64 (0), .int .i64 (0), .int .i64 (0)] 54)).size (.cells #[.int .i64 (0), .int .i64 (0), .int .i64 (0), .int .i64 (0), .int .i64 (0), .int .i64 (0), .int .i64 (0), .int .i64 (0), .int .i64 (0)] 54)
  have b3' := Blk.new (((w.alloc (.cells #[.int .i64 (X 0), .int .i64 (X 1), .int .i64 (X 2), .int .i64 (X 3), .int .i64 (X 4), .int .i64 (X 5), .int .i64 (X 6), .int .i64 (X 7), .int .i64 (X 8)] 54)).alloc (.cells #[.int .i64 (Y 0), .int .i64 (Y 1), .int .i64 (Y 2), .int .i64 (Y 3), .int .i64 (Y 4), .int .i64 (Y 5), .int .i64 (Y 6), .int .i64 (Y 7), .int .i64 (Y 8)] 54)).alloc (.cells #[.int .i64 (0), .int .i64 (0), .int .i64 (0), .int .i64 (0), .int .i64 (0), .int .i64 (0), .int .i64 (0), .int .i64 (0), .int .i64 (0)] 54)) 54 #[.int .i64 (0), .int .i64 (0), .int .i64 (0), .int .i64 (0), .int .i64 (0), .int .i64 (0), .int .i64 (0), .int .i64 (0), .int .i64 (0)]
  obtain ⟨b0', b1', b2'⟩ := blk3 w #[.int .i64 (X 0), .int .i64 (X 1), .int .i64 (X 2), .int .i64 (X 3), .int .i64 (X 4), .int .i64 (X 5), .int .i64 (X 6), .int .i64 (X 7), .int .i64 (X 8)] #[.int .i64 (Y 0), .int .i64 (Y 1), .int .i64 (Y 2), .int .i64 (Y 3), .int .i64 (Y 4), .int .i64 (Y 5), .int .i64 (Y 6), .int .i64 (Y 7), .int .i64 (Y 8)] #[.int .i64 (0), .int .i64 (0), .int .i64 (0), .int .i64 (0), .int .i64 (0), .int .i64 (0), .int .i64 (0), .int .i64 (0), .int .i64 (0)] 54 54 54
  replace b0' := b0'.alloc (.cells #[.int .i64 (0), .int .i64 (0), .int .i64 (0), .int .i64 (0), .int .i64 (0), .int .i64 (0), .int .i64 (0), .int .i64 (0), .int .i64 (0)] 54)
  replace b1' := b1'.alloc (.cells #[.int .i64 (0), .int .i64 (0), .int .i64 (0), .int .i64 (0), .int .i64 (0), .int .i64 (0), .int .i64 (0), .int .i64 (0), .int .i64 (0)] 54)
  replace b2' := b2'.alloc (.cells #[.int .i64 (0), .int .i64 (0), .int .i64 (0), .int .i64 (0), .int .i64 (0), .int .i64 (0), .int .i64 (0), .int .i64 (0), .int .i64 (0)] 54)
  simp only [World.size_alloc] at b3'
  go_enter Try.func74, Try.ntmps74
  go_wp2
  generalize (((w.alloc (.cells #[.int .i64 (X 0), .int .i64 (X 1), .int .i64 (X 2), .int .i64 (X 3), .int .i64 (X 4), .int .i64 (X 5), .int .i64 (X 6), .int .i64 (X 7), .int .i64 (X 8)] 54)).alloc (.cells #[.int .i64 (Y 0), .int .i64 (Y 1), .int .i64 (Y 2), .int .i64 (Y 3), .int .i64 (Y 4), .int .i64 (Y 5), .int .i64 (Y 6), .int .i64 (Y 7), .int .i64 (Y 8)] 54)).alloc (.cells #[.int .i64 (0), .int .i64 (0), .int .i64 (0), .int .i64 (0), .int .i64 (0), .int .i64 (0), .int .i64 (0), .int .i64 (0), .int .i64 (0)] 54)).alloc (.cells #[.int .i64 (0), .int .i64 (0), .int .i64 (0), .int .i64 (0), .int .i64 (0), .int .i64 (0), .int .i64 (0), .int .i64 (0), .int .i64 (0)] 54) = W0 at hB0 b0' b1' b2' b3' ⊢
  go_loopw [6] (fun s wr => ∃ k : Nat, k ≤ 3 ∧ s = .int .i64 k ∧ (∃ f : Nat → Int, Blk wr (w.heap.size + 1 + 1 + 1) 54 (arr9 f) ∧ ∀ j, j < 3 * k → f j = mulR X Y j) ∧ Blk wr w.heap.size 54 (arr9 X) ∧ Blk wr (w.heap.size + 1) 54 (arr9 Y) ∧ Blk wr (w.heap.size + 1 + 1) 54 #[.int .i64 (0), .int .i64 (0), .int .i64 (0), .int .i64 (0), .int .i64 (0), .int .i64 (0), .int .i64 (0), .int .i64 (0), .int .i64 (0)] ∧ Below w.heap.size w wr) (fun s _ => 3 - (intOf s).toNat)
  case atStart => exact ⟨0, by omega, rfl, ⟨fun _ => 0, b3', fun j hj => absurd hj (by omega)⟩, b0', b1', b2', hB0⟩
  case round =>
    obtain ⟨k, hk, rfl, ⟨f, b3, hf1⟩, b0, b1, b2, hB⟩ := hrel
    clear hB0 b0' b1' b2' b3'
    by_cases hlt : k < 3
    · have hk0 : (0 : Int) ≤ (k : Int) := by omega
      have hk1 : (k : Int) < 3 := by omega
      have F1 := Lib.hid hf1
      have B3 := Lib.hid b3
      have B0 := Lib.hid b0
      have B1 := Lib.hid b1
      have B2 := Lib.hid b2
      have HB := Lib.hid hB
      clear hf1 b0 b1 b2 b3 hB
      go_wp2
      obtain ⟨wo, rfl⟩ : ∃ wo : World, wo = wr := ⟨_, rfl⟩
      go_loopw [7] (fun s wr => ∃ t : Nat, t ≤ 3 ∧ s = .int .i64 t ∧ (∃ f : Nat → Int, Blk wr (w.heap.size + 1 + 1 + 1) 54 (arr9 f) ∧ ∀ j, j < 3 * k + t → f j = mulR X Y j) ∧ Blk wr w.heap.size 54 (arr9 X) ∧ Blk wr (w.heap.size + 1) 54 (arr9 Y) ∧ Blk wr (w.heap.size + 1 + 1) 54 #[.int .i64 (0), .int .i64 (0), .int .i64 (0), .int .i64 (0), .int .i64 (0), .int .i64 (0), .int .i64 (0), .int .i64 (0), .int .i64 (0)] ∧ Below w.heap.size w wr) (fun s _ => 3 - (intOf s).toNat)
      case atStart => exact ⟨0, by omega, rfl, ⟨f, B3.out, fun j hj => F1.out j (by omega)⟩, B0.out, B1.out, B2.out, HB.out⟩
      case round =>
        clear F1 B3 B0 B1 B2 HB
        clear f
        obtain ⟨t, ht, rfl, ⟨f, b3, hf1⟩, b0, b1, b2, hB⟩ := hrel
        by_cases htl : t < 3
        · have ht0 : (0 : Int) ≤ (t : Int) := by omega
          have ht1 : (t : Int) < 3 := by omega
          obtain ⟨j3, hj3⟩ : ∃ c : Nat, c = 3 * k := ⟨_, rfl⟩
          obtain ⟨oo, hoo⟩ : ∃ c : Nat, c = j3 + t := ⟨_, rfl⟩
          obtain ⟨p1, hp1⟩ : ∃ c : Nat, c = j3 + 1 := ⟨_, rfl⟩
          obtain ⟨p2, hp2⟩ : ∃ c : Nat, c = j3 + 2 := ⟨_, rfl⟩
          obtain ⟨r1, hr1⟩ : ∃ c : Nat, c = 3 + t := ⟨_, rfl⟩
          obtain ⟨r2, hr2⟩ : ∃ c : Nat, c = 6 + t := ⟨_, rfl⟩
          have hx0 := hX j3 (by omega)
          have hx1 := hX p1 (by omega)
          have hx2 := hX p2 (by omega)
          have hy0 := hY t (by omega)
          have hy1 := hY r1 (by omega)
          have hy2 := hY r2 (by omega)
          have m0 := mul16 hx0.1 hx0.2 hy0.1 hy0.2
          have m1 := mul16 hx1.1 hx1.2 hy1.1 hy1.2
          have m2 := mul16 hx2.1 hx2.2 hy2.1 hy2.2
          have W1 := Lib.hid (show IntKind.i64.wrap (3 * (k : Int)) = (j3 : Int) by rw [IntWalk.i64_in _ (by omega)]; omega)
          have W2 := Lib.hid (show IntKind.i64.wrap ((j3 : Int) + (t : Int)) = (oo : Int) by rw [IntWalk.i64_in _ (by omega)]; omega)
          have W3 := Lib.hid (show IntKind.i64.wrap ((j3 : Int) + 1) = (p1 : Int) by rw [IntWalk.i64_in _ (by omega)]; omega)
          have W4 := Lib.hid (show IntKind.i64.wrap ((j3 : Int) + 2) = (p2 : Int) by rw [IntWalk.i64_in _ (by omega)]; omega)
          have W5 := Lib.hid (show IntKind.i64.wrap (3 + (t : Int)) = (r1 : Int) by rw [IntWalk.i64_in _ (by omega)]; omega)
          have W6 := Lib.hid (show IntKind.i64.wrap (6 + (t : Int)) = (r2 : Int) by rw [IntWalk.i64_in _ (by omega)]; omega)
          obtain ⟨g0, hg0⟩ : ∃ g : Int, g = X j3 * Y t := ⟨_, rfl⟩
          obtain ⟨g1, hg1⟩ : ∃ g : Int, g = X p1 * Y r1 := ⟨_, rfl⟩
          obtain ⟨g2, hg2⟩ : ∃ g : Int, g = X p2 * Y r2 := ⟨_, rfl⟩
          rw [← hg0] at m0
          rw [← hg1] at m1
          rw [← hg2] at m2
          obtain ⟨s1, hs1⟩ : ∃ g : Int, g = g0 + g1 := ⟨_, rfl⟩
          obtain ⟨s2, hs2⟩ : ∃ g : Int, g = s1 + g2 := ⟨_, rfl⟩
          obtain ⟨qq, hqq⟩ : ∃ g : Int, g = s2.tdiv 16 := ⟨_, rfl⟩
          have W7 := Lib.hid (show IntKind.i64.wrap (X j3 * Y t) = g0 by rw [← hg0]; exact IntWalk.i64_in _ (by omega))
          have W8 := Lib.hid (show IntKind.i64.wrap (X p1 * Y r1) = g1 by rw [← hg1]; exact IntWalk.i64_in _ (by omega))
          have W9 := Lib.hid (show IntKind.i64.wrap (X p2 * Y r2) = g2 by rw [← hg2]; exact IntWalk.i64_in _ (by omega))
          have V1 := Lib.hid (show IntKind.i64.wrap (g0 + g1) = s1 by rw [← hs1]; exact IntWalk.i64_in _ (by omega))
          have V2 := Lib.hid (show IntKind.i64.wrap (s1 + g2) = s2 by rw [← hs2]; exact IntWalk.i64_in _ (by omega))
          have V3 := Lib.hid (show IntKind.i64.wrap (s2.tdiv 16) = qq by
            rw [hqq]
            refine IntWalk.i64_in _ ?_
            have h : -1000 ≤ s2 ∧ s2 ≤ 1000 := by omega
            have := Int.mul_tdiv_add_tmod s2 16
            have := Int.tmod_lt_of_pos s2 (by decide : (0 : Int) < 16)
            have := Int.lt_tmod_of_pos s2 (by decide : (0 : Int) < 16)
            omega)
          have W0 := Lib.hid (show mulR X Y oo = qq by
            unfold mulR
            rw [hqq, hs2, hs1, hg0, hg1, hg2, hr1, hr2, hp1, hp2]
            have e1 : oo / 3 * 3 = j3 := by omega
            have e2 : oo % 3 = t := by omega
            simp only [part, e1, e2]
            simp)
          have q2 : (0 : Int) ≤ (j3 : Int) := by omega
          have q3 : (j3 : Int) < 9 := by omega
          have q4 : (0 : Int) ≤ (p1 : Int) := by omega
          have q5 : (p1 : Int) < 9 := by omega
          have q6 : (0 : Int) ≤ (p2 : Int) := by omega
          have q7 : (p2 : Int) < 9 := by omega
          have q8 : (0 : Int) ≤ (r1 : Int) := by omega
          have q9 : (r1 : Int) < 9 := by omega
          have u0 : (0 : Int) ≤ (r2 : Int) := by omega
          have u1 : (r2 : Int) < 9 := by omega
          have u2 : (0 : Int) ≤ (oo : Int) := by omega
          have u3 : (oo : Int) < 9 := by omega
          have u5 : (t : Int) < 9 := by omega
          have O9 : oo < 9 := by omega
          have D3 := Lib.hid (arr9_at f (by omega : oo < 9))
          have D0 := Lib.hid (arr9_at X (by omega : j3 < 9))
          have D1 := Lib.hid (arr9_at X (by omega : p1 < 9))
          have D2 := Lib.hid (arr9_at X (by omega : p2 < 9))
          have E0 := Lib.hid (arr9_at Y (by omega : t < 9))
          have E1 := Lib.hid (arr9_at Y (by omega : r1 < 9))
          have E2 := Lib.hid (arr9_at Y (by omega : r2 < 9))
          have ht3 : t + 1 ≤ 3 := by omega
          have F1 := Lib.hid (show ∀ j, j < 3 * k + (t + 1) → j ≠ oo → f j = mulR X Y j from fun j h1 h2 => hf1 j (by omega))
          clear hf1 hx0 hx1 hx2 hy0 hy1 hy2 m0 m1 m2 hg0 hg1 hg2 hs1 hs2 hqq hj3 hoo hp1 hp2 hr1 hr2
          have w1 := W1.out
          have w2 := W2.out
          have w3 := W3.out
          have w4 := W4.out
          have w5 := W5.out
          have w6 := W6.out
          have w7 := W7.out
          have w8 := W8.out
          have w9 := W9.out
          have v1 := V1.out
          have v2 := V2.out
          have v3 := V3.out
          go_wp2_with fail
          refine wp_region_tail (S := fun w' => w'.cell? ⟨w.heap.size, j3, none⟩ = some (.int .i64 (X j3)) ∧ w'.cell? ⟨w.heap.size, p1, none⟩ = some (.int .i64 (X p1)) ∧ w'.cell? ⟨w.heap.size, p2, none⟩ = some (.int .i64 (X p2)) ∧ w'.cell? ⟨w.heap.size + 1, t, none⟩ = some (.int .i64 (Y t)) ∧ w'.cell? ⟨w.heap.size + 1, r1, none⟩ = some (.int .i64 (Y r1)) ∧ w'.cell? ⟨w.heap.size + 1, r2, none⟩ = some (.int .i64 (Y r2))) 36 (by kernel_rfl) (by kernel_rfl) ⟨(b0.drew.cell j3).trans D0.out, (b0.drew.cell p1).trans D1.out, (b0.drew.cell p2).trans D2.out, (b1.drew.cell t).trans E0.out, (b1.drew.cell r1).trans E1.out, (b1.drew.cell r2).trans E2.out⟩ (fun hHeld => ?_)
          refine wpAnyH_take (i := 0) (v := ?v0) rfl (by kernel_rfl) (by kernel_rfl) (by kernel_rfl) (fun _ _ _ h => h) (Or.inl ⟨by rfl, ?y0⟩) (by assumption) ?r0
          case y0 => intro W hSw; (try dsimp only at hSw); go_simp; try with_reducible rfl
          try simp only [Act.put]
          try simp only [List.setIfInBounds_toArray]
          try simp only [List.set_cons_succ]
          try simp only [List.set_cons_zero]
          refine wpAnyH_take (i := 1) (v := ?v1) rfl (by kernel_rfl) (by kernel_rfl) (by kernel_rfl) (fun _ _ _ h => h) (Or.inl ⟨by rfl, ?y1⟩) (by assumption) ?r1
          case y1 => intro W hSw; (try dsimp only at hSw); go_simp; try with_reducible rfl
          try simp only [Act.put]
          try simp only [List.setIfInBounds_toArray]
          try simp only [List.set_cons_succ]
          try simp only [List.set_cons_zero]
          refine wpAnyH_take (i := 2) (v := ?v2) rfl (by kernel_rfl) (by kernel_rfl) (by kernel_rfl) (fun _ _ _ h => h) (Or.inl ⟨by rfl, ?y2⟩) (by assumption) ?r2
          case y2 => intro W hSw; (try dsimp only at hSw); go_simp; try with_reducible rfl
          try simp only [Act.put]
          try simp only [List.setIfInBounds_toArray]
          try simp only [List.set_cons_succ]
          try simp only [List.set_cons_zero]
          refine wpAnyH_take (i := 3) (v := ?v3) rfl (by kernel_rfl) (by kernel_rfl) (by kernel_rfl) (fun _ _ _ h => h) (Or.inl ⟨by rfl, ?y3⟩) (by assumption) ?r3
          case y3 => intro W hSw; (try dsimp only at hSw); go_simp; try with_reducible rfl
          try simp only [Act.put]
          try simp only [List.setIfInBounds_toArray]
          try simp only [List.set_cons_succ]
          try simp only [List.set_cons_zero]
          refine wpAnyH_take (i := 4) (v := ?v4) rfl (by kernel_rfl) (by kernel_rfl) (by kernel_rfl) (fun _ _ _ h => h) (Or.inl ⟨by rfl, ?y4⟩) (by assumption) ?r4
          case y4 => intro W hSw; (try dsimp only at hSw); go_simp; try with_reducible rfl
          try simp only [Act.put]
          try simp only [List.setIfInBounds_toArray]
          try simp only [List.set_cons_succ]
          try simp only [List.set_cons_zero]
          refine wpAnyH_take (i := 5) (v := ?v5) rfl (by kernel_rfl) (by kernel_rfl) (by kernel_rfl) (fun _ _ _ h => h) (Or.inl ⟨by rfl, ?y5⟩) (by assumption) ?r5
          case y5 => intro W hSw; (try dsimp only at hSw); go_simp; try with_reducible rfl
          try simp only [Act.put]
          try simp only [List.setIfInBounds_toArray]
          try simp only [List.set_cons_succ]
          try simp only [List.set_cons_zero]
          refine wpAnyH_take (i := 6) (v := ?v6) rfl (by kernel_rfl) (by kernel_rfl) (by kernel_rfl) (fun _ _ _ h => h) (Or.inl ⟨by rfl, ?y6⟩) (by assumption) ?r6
          case y6 => intro W hSw; (try dsimp only at hSw); go_simp; try with_reducible rfl
          try simp only [Act.put]
          try simp only [List.setIfInBounds_toArray]
          try simp only [List.set_cons_succ]
          try simp only [List.set_cons_zero]
          refine wpAnyH_take (i := 7) (v := ?v7) rfl (by kernel_rfl) (by kernel_rfl) (by kernel_rfl) (fun _ _ _ h => h) (Or.inl ⟨by rfl, ?y7⟩) (by assumption) ?r7
          case y7 => intro W hSw; (try dsimp only at hSw); go_simp; try with_reducible rfl
          try simp only [Act.put]
          try simp only [List.setIfInBounds_toArray]
          try simp only [List.set_cons_succ]
          try simp only [List.set_cons_zero]
          refine wpAnyH_take (i := 8) (v := ?v8) rfl (by kernel_rfl) (by kernel_rfl) (by kernel_rfl) (fun _ _ _ h => h) (Or.inl ⟨by rfl, ?y8⟩) (by assumption) ?r8
          case y8 => intro W hSw; (try dsimp only at hSw); go_simp; try with_reducible rfl
          try simp only [Act.put]
          try simp only [List.setIfInBounds_toArray]
          try simp only [List.set_cons_succ]
          try simp only [List.set_cons_zero]
          refine wpAnyH_take (i := 9) (v := ?v9) rfl (by kernel_rfl) (by kernel_rfl) (by kernel_rfl) (fun _ _ _ h => h) (Or.inl ⟨by rfl, ?y9⟩) (by assumption) ?r9
          case y9 => intro W hSw; (try dsimp only at hSw); go_simp; try with_reducible rfl
          try simp only [Act.put]
          try simp only [List.setIfInBounds_toArray]
          try simp only [List.set_cons_succ]
          try simp only [List.set_cons_zero]
          refine wpAnyH_take (i := 10) (v := ?v10) rfl (by kernel_rfl) (by kernel_rfl) (by kernel_rfl) (fun _ _ _ h => h) (Or.inl ⟨by rfl, ?y10⟩) (by assumption) ?r10
          case y10 => intro W hSw; (try dsimp only at hSw); go_simp; try with_reducible rfl
          try simp only [Act.put]
          try simp only [List.setIfInBounds_toArray]
          try simp only [List.set_cons_succ]
          try simp only [List.set_cons_zero]
          refine wpAnyH_take (i := 11) (v := ?v11) rfl (by kernel_rfl) (by kernel_rfl) (by kernel_rfl) (fun _ _ _ h => h) (Or.inl ⟨by rfl, ?y11⟩) (by assumption) ?r11
          case y11 => intro W hSw; (try dsimp only at hSw); go_simp; try with_reducible rfl
          try simp only [Act.put]
          try simp only [List.setIfInBounds_toArray]
          try simp only [List.set_cons_succ]
          try simp only [List.set_cons_zero]
          refine wpAnyH_take (i := 12) (v := ?v12) rfl (by kernel_rfl) (by kernel_rfl) (by kernel_rfl) (fun _ _ _ h => h) (Or.inl ⟨by rfl, ?y12⟩) (by assumption) ?r12
          case y12 => intro W hSw; (try dsimp only at hSw); go_simp; try with_reducible rfl
          try simp only [Act.put]
          try simp only [List.setIfInBounds_toArray]
          try simp only [List.set_cons_succ]
          try simp only [List.set_cons_zero]
          refine wpAnyH_take (i := 13) (v := ?v13) rfl (by kernel_rfl) (by kernel_rfl) (by kernel_rfl) (fun _ _ _ h => h) (Or.inl ⟨by rfl, ?y13⟩) (by assumption) ?r13
          case y13 => intro W hSw; (try dsimp only at hSw); go_simp; try with_reducible rfl
          try simp only [Act.put]
          try simp only [List.setIfInBounds_toArray]
          try simp only [List.set_cons_succ]
          try simp only [List.set_cons_zero]
          refine wpAnyH_take (i := 14) (v := ?v14) rfl (by kernel_rfl) (by kernel_rfl) (by kernel_rfl) (fun _ _ _ h => h) (Or.inl ⟨by rfl, ?y14⟩) (by assumption) ?r14
          case y14 => intro W hSw; (try dsimp only at hSw); go_simp; try with_reducible rfl
          try simp only [Act.put]
          try simp only [List.setIfInBounds_toArray]
          try simp only [List.set_cons_succ]
          try simp only [List.set_cons_zero]
          refine wpAnyH_take (i := 15) (v := ?v15) rfl (by kernel_rfl) (by kernel_rfl) (by kernel_rfl) (fun _ _ _ h => h) (Or.inl ⟨by rfl, ?y15⟩) (by assumption) ?r15
          case y15 => intro W hSw; (try dsimp only at hSw); go_simp; try with_reducible rfl
          try simp only [Act.put]
          try simp only [List.setIfInBounds_toArray]
          try simp only [List.set_cons_succ]
          try simp only [List.set_cons_zero]
          refine wpAnyH_take (i := 16) (v := ?v16) rfl (by kernel_rfl) (by kernel_rfl) (by kernel_rfl) (fun _ _ _ h => h) (Or.inl ⟨by rfl, ?y16⟩) (by assumption) ?r16
          case y16 => intro W hSw; (try dsimp only at hSw); go_simp; try with_reducible rfl
          try simp only [Act.put]
          try simp only [List.setIfInBounds_toArray]
          try simp only [List.set_cons_succ]
          try simp only [List.set_cons_zero]
          refine wpAnyH_take (i := 17) (v := ?v17) rfl (by kernel_rfl) (by kernel_rfl) (by kernel_rfl) (fun _ _ _ h => h) (Or.inl ⟨by rfl, ?y17⟩) (by assumption) ?r17
          case y17 => intro W hSw; (try dsimp only at hSw); go_simp; try with_reducible rfl
          try simp only [Act.put]
          try simp only [List.setIfInBounds_toArray]
          try simp only [List.set_cons_succ]
          try simp only [List.set_cons_zero]
          refine wpAnyH_take (i := 18) (v := ?v18) rfl (by kernel_rfl) (by kernel_rfl) (by kernel_rfl) (fun _ _ _ h => h) (Or.inl ⟨by rfl, ?y18⟩) (by assumption) ?r18
          case y18 => intro W hSw; (try dsimp only at hSw); go_simp; try with_reducible rfl
          try simp only [Act.put]
          try simp only [List.setIfInBounds_toArray]
          try simp only [List.set_cons_succ]
          try simp only [List.set_cons_zero]
          refine wpAnyH_take (i := 19) (v := ?v19) rfl (by kernel_rfl) (by kernel_rfl) (by kernel_rfl) (fun _ _ _ h => h) (Or.inl ⟨by rfl, ?y19⟩) (by assumption) ?r19
          case y19 => intro W hSw; (try dsimp only at hSw); go_simp; try with_reducible rfl
          try simp only [Act.put]
          try simp only [List.setIfInBounds_toArray]
          try simp only [List.set_cons_succ]
          try simp only [List.set_cons_zero]
          refine wpAnyH_take (i := 20) (v := ?v20) rfl (by kernel_rfl) (by kernel_rfl) (by kernel_rfl) (fun _ _ _ h => h) (Or.inl ⟨by rfl, ?y20⟩) (by assumption) ?r20
          case y20 => intro W hSw; (try dsimp only at hSw); go_simp; try with_reducible rfl
          try simp only [Act.put]
          try simp only [List.setIfInBounds_toArray]
          try simp only [List.set_cons_succ]
          try simp only [List.set_cons_zero]
          refine wpAnyH_take (i := 21) (v := ?v21) rfl (by kernel_rfl) (by kernel_rfl) (by kernel_rfl) (fun _ _ _ h => h) (Or.inl ⟨by rfl, ?y21⟩) (by assumption) ?r21
          case y21 => intro W hSw; (try dsimp only at hSw); go_simp; try with_reducible rfl
          try simp only [Act.put]
          try simp only [List.setIfInBounds_toArray]
          try simp only [List.set_cons_succ]
          try simp only [List.set_cons_zero]
          refine wpAnyH_take (i := 22) (v := ?v22) rfl (by kernel_rfl) (by kernel_rfl) (by kernel_rfl) (fun _ _ _ h => h) (Or.inl ⟨by rfl, ?y22⟩) (by assumption) ?r22
          case y22 => intro W hSw; (try dsimp only at hSw); go_simp; try with_reducible rfl
          try simp only [Act.put]
          try simp only [List.setIfInBounds_toArray]
          try simp only [List.set_cons_succ]
          try simp only [List.set_cons_zero]
          refine wpAnyH_take (i := 23) (v := ?v23) rfl (by kernel_rfl) (by kernel_rfl) (by kernel_rfl) (fun _ _ _ h => h) (Or.inl ⟨by rfl, ?y23⟩) (by assumption) ?r23
          case y23 => intro W hSw; (try dsimp only at hSw); go_simp; try with_reducible rfl
          try simp only [Act.put]
          try simp only [List.setIfInBounds_toArray]
          try simp only [List.set_cons_succ]
          try simp only [List.set_cons_zero]
          refine wpAnyH_take (i := 24) (v := ?v24) rfl (by kernel_rfl) (by kernel_rfl) (by kernel_rfl) (fun _ _ _ h => h) (Or.inl ⟨by rfl, ?y24⟩) (by assumption) ?r24
          case y24 => intro W hSw; (try dsimp only at hSw); go_simp; try with_reducible rfl
          try simp only [Act.put]
          try simp only [List.setIfInBounds_toArray]
          try simp only [List.set_cons_succ]
          try simp only [List.set_cons_zero]
          refine wpAnyH_take (i := 25) (v := ?v25) rfl (by kernel_rfl) (by kernel_rfl) (by kernel_rfl) (fun _ _ _ h => h) (Or.inl ⟨by rfl, ?y25⟩) (by assumption) ?r25
          case y25 => intro W hSw; (try dsimp only at hSw); go_simp; try with_reducible rfl
          try simp only [Act.put]
          try simp only [List.setIfInBounds_toArray]
          try simp only [List.set_cons_succ]
          try simp only [List.set_cons_zero]
          refine wpAnyH_take (i := 26) (v := ?v26) rfl (by kernel_rfl) (by kernel_rfl) (by kernel_rfl) (fun _ _ _ h => h) (Or.inl ⟨by rfl, ?y26⟩) (by assumption) ?r26
          case y26 => intro W hSw; (try dsimp only at hSw); go_simp; try with_reducible rfl
          try simp only [Act.put]
          try simp only [List.setIfInBounds_toArray]
          try simp only [List.set_cons_succ]
          try simp only [List.set_cons_zero]
          refine wpAnyH_take (i := 27) (v := ?v27) rfl (by kernel_rfl) (by kernel_rfl) (by kernel_rfl) (fun _ _ _ h => h) (Or.inl ⟨by rfl, ?y27⟩) (by assumption) ?r27
          case y27 => intro W hSw; (try dsimp only at hSw); go_simp; try with_reducible rfl
          try simp only [Act.put]
          try simp only [List.setIfInBounds_toArray]
          try simp only [List.set_cons_succ]
          try simp only [List.set_cons_zero]
          refine wpAnyH_take (i := 28) (v := ?v28) rfl (by kernel_rfl) (by kernel_rfl) (by kernel_rfl) (fun _ _ _ h => h) (Or.inl ⟨by rfl, ?y28⟩) (by assumption) ?r28
          case y28 => intro W hSw; (try dsimp only at hSw); go_simp; try with_reducible rfl
          try simp only [Act.put]
          try simp only [List.setIfInBounds_toArray]
          try simp only [List.set_cons_succ]
          try simp only [List.set_cons_zero]
          refine wpAnyH_take (i := 29) (v := ?v29) rfl (by kernel_rfl) (by kernel_rfl) (by kernel_rfl) (fun _ _ _ h => h) (Or.inl ⟨by rfl, ?y29⟩) (by assumption) ?r29
          case y29 => intro W hSw; (try dsimp only at hSw); go_simp; try with_reducible rfl
          try simp only [Act.put]
          try simp only [List.setIfInBounds_toArray]
          try simp only [List.set_cons_succ]
          try simp only [List.set_cons_zero]
          refine wpAnyH_take (i := 30) (v := ?v30) rfl (by kernel_rfl) (by kernel_rfl) (by kernel_rfl) (fun _ _ _ h => h) (Or.inl ⟨by rfl, ?y30⟩) (by assumption) ?r30
          case y30 => intro W hSw; (try dsimp only at hSw); go_simp; try with_reducible rfl
          try simp only [Act.put]
          try simp only [List.setIfInBounds_toArray]
          try simp only [List.set_cons_succ]
          try simp only [List.set_cons_zero]
          refine wpAnyH_take (i := 31) (v := ?v31) rfl (by kernel_rfl) (by kernel_rfl) (by kernel_rfl) (fun _ _ _ h => h) (Or.inl ⟨by rfl, ?y31⟩) (by assumption) ?r31
          case y31 => intro W hSw; (try dsimp only at hSw); go_simp; try with_reducible rfl
          try simp only [Act.put]
          try simp only [List.setIfInBounds_toArray]
          try simp only [List.set_cons_succ]
          try simp only [List.set_cons_zero]
          refine wpAnyH_take (i := 32) (v := ?v32) rfl (by kernel_rfl) (by kernel_rfl) (by kernel_rfl) (fun _ _ _ h => h) (Or.inl ⟨by rfl, ?y32⟩) (by assumption) ?r32
          case y32 => intro W hSw; (try dsimp only at hSw); go_simp; try with_reducible rfl
          try simp only [Act.put]
          try simp only [List.setIfInBounds_toArray]
          try simp only [List.set_cons_succ]
          try simp only [List.set_cons_zero]
          refine wpAnyH_take (i := 33) (v := ?v33) rfl (by kernel_rfl) (by kernel_rfl) (by kernel_rfl) (fun _ _ _ h => h) (Or.inl ⟨by rfl, ?y33⟩) (by assumption) ?r33
          case y33 => intro W hSw; (try dsimp only at hSw); go_simp; try with_reducible rfl
          try simp only [Act.put]
          try simp only [List.setIfInBounds_toArray]
          try simp only [List.set_cons_succ]
          try simp only [List.set_cons_zero]
          refine wpAnyH_take (i := 34) (v := ?v34) rfl (by kernel_rfl) (by kernel_rfl) (by kernel_rfl) (fun _ _ _ h => h) (Or.inl ⟨by rfl, ?y34⟩) (by assumption) ?r34
          case y34 => intro W hSw; (try dsimp only at hSw); go_simp; try with_reducible rfl
          try simp only [Act.put]
          try simp only [List.setIfInBounds_toArray]
          try simp only [List.set_cons_succ]
          try simp only [List.set_cons_zero]
          refine wpAnyH_take (i := 35) (v := ?v35) rfl (by kernel_rfl) (by kernel_rfl) (by kernel_rfl) (fun _ _ _ h => h) (Or.inl ⟨by rfl, ?y35⟩) (by assumption) ?r35
          case y35 => intro W hSw; (try dsimp only at hSw); go_simp; try with_reducible rfl
          try simp only [Act.put]
          try simp only [List.setIfInBounds_toArray]
          try simp only [List.set_cons_succ]
          try simp only [List.set_cons_zero]
          refine wpAnyH_done (by kernel_rfl) ?_ _
          simp only [withNormal, List.drop_succ_cons, List.drop_zero]
          have d3 := (b3.cell oo).trans D3.out
          have f3 := b3.frozen oo
          clear w1 w2 w3 w4 w5 w6 w7 w8 w9 v1 v2 v3
          go_wp2
          go_roundw
          case rel => exact ⟨t + 1, ht3, by go_num, ⟨fun j => if j = oo then qq else f j, by rw [← arr9_set f O9 qq]; exact b3.set_ oo _, fun j hj => by
            by_cases h : j = oo
            · subst h; simp [W0.out]
            · simp only [h, if_false]; exact F1.out j hj h⟩, b0.far (p := ⟨w.heap.size + 1 + 1 + 1, oo, none⟩) (by dsimp only; omega) _, b1.far (p := ⟨w.heap.size + 1 + 1 + 1, oo, none⟩) (by dsimp only; omega) _, b2.far (p := ⟨w.heap.size + 1 + 1 + 1, oo, none⟩) (by dsimp only; omega) _, (hB.setCell (by dsimp only; omega) _).drew⟩
          case measure => simp [intOf]; omega
        · obtain rfl : t = 3 := by omega
          have hf : ∀ j, j < 3 * (k + 1) → f j = mulR X Y j := fun j hj => hf1 j (by omega)
          clear hf1
          go_wp2
          go_roundw
          case rel => exact ⟨k + 1, by omega, by go_num, ⟨f, b3, hf⟩, b0, b1, b2, hB⟩
          case measure => simp [intOf]; omega
    · obtain rfl : k = 3 := by omega
      replace b3 : Blk wr (w.heap.size + 1 + 1 + 1) 54 #[.int .i64 (mulR X Y 0), .int .i64 (mulR X Y 1), .int .i64 (mulR X Y 2), .int .i64 (mulR X Y 3), .int .i64 (mulR X Y 4), .int .i64 (mulR X Y 5), .int .i64 (mulR X Y 6), .int .i64 (mulR X Y 7), .int .i64 (mulR X Y 8)] := by
        have e : arr9 f = arr9 (mulR X Y) := arr9_congr (fun j hj => hf1 j hj)
        rw [e] at b3
        exact b3
      clear hf1 b0 b1
      have c2 := b2.cell
      have f2 := b2.frozen
      have l2 := b2.lt
      have c3 := b3.cell
      have f3 := b3.frozen
      have l3 := b3.lt
      go_wp2
      exact bodyPost_ret (v := .agg #[.int .i64 (mulR X Y 0), .int .i64 (mulR X Y 1), .int .i64 (mulR X Y 2), .int .i64 (mulR X Y 3), .int .i64 (mulR X Y 4), .int .i64 (mulR X Y 5), .int .i64 (mulR X Y 6), .int .i64 (mulR X Y 7), .int .i64 (mulR X Y 8)]) (by simp [results, Try.results74, go_sem, c2]) rfl ⟨rfl, (((((((((hB.setCell (by dsimp only; omega) _).setCell (by dsimp only; omega) _).setCell (by dsimp only; omega) _).setCell (by dsimp only; omega) _).setCell (by dsimp only; omega) _).setCell (by dsimp only; omega) _).setCell (by dsimp only; omega) _).setCell (by dsimp only; omega) _).setCell (by dsimp only; omega) _)⟩
end Go.Proofs.Ytobfccoljijnkaa
