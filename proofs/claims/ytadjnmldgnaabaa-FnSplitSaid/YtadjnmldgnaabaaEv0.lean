/- The program's evaluation of a patch at a grid point in range. -/
import Derived.Test.YtadjnmldgnaabaaEv
import Derived.Test.YtadjnmldgnaabaaReg
namespace Go.Proofs.Ytadjnmldgnaabaa
open Go.RowKit

theorem plus0 (x1 y1 z1 : Int) (x1l : -1000000000000000 ≤ x1) (x1h : x1 ≤ 1000000000000000) (y1l : -1000000000000000 ≤ y1) (y1h : y1 ≤ 1000000000000000) (z1l : -1000000000000000 ≤ z1) (z1h : z1 ≤ 1000000000000000) (w : World) :
    Calls Try.prog 29 #[.agg #[.int .i64 (0), .int .i64 (0), .int .i64 (0)], .agg #[.int .i64 (x1), .int .i64 (y1), .int .i64 (z1)]] w fun e w' => e = .returned (vec x1 y1 z1) ∧ Below w.heap.size w w' := by
  have h := plus_any 0 0 0 x1 y1 z1 (by omega) (by omega) (by omega) (by omega) (by omega) (by omega) x1l x1h y1l y1h z1l z1h w
  simpa only [Int.zero_add] using h
theorem blk4 (w : World) (c0 c1 c2 c3 : Array Value) (t0 t1 t2 t3 : TypeId) :
    let W := (((w.alloc (.cells c0 t0)).alloc (.cells c1 t1)).alloc (.cells c2 t2)).alloc (.cells c3 t3)
    Blk W w.heap.size t0 c0 ∧ Blk W (w.heap.size + 1) t1 c1 ∧ Blk W (w.heap.size + 1 + 1) t2 c2 ∧ Blk W (w.heap.size + 1 + 1 + 1) t3 c3 ∧ Below w.heap.size w W := by
  intro W
  obtain ⟨h0, h1, h2⟩ := blk3 w c0 c1 c2 t0 t1 t2
  have h3 := Blk.new (((w.alloc (.cells c0 t0)).alloc (.cells c1 t1)).alloc (.cells c2 t2)) t3 c3
  have hb := below3 w (.cells c0 t0) (.cells c1 t1) (.cells c2 t2)
  simp only [World.size_alloc] at h3
  exact ⟨h0.alloc _, h1.alloc _, h2.alloc _, h3, hb.alloc hb.size _⟩
def cx (a b d e : Int) (k : Nat) : Int := if k = 0 then a else if k = 1 then b else if k = 2 then d else e
/-- The sum behind k corners. -/
def sumE (fx fa : Nat → Int) : Nat → Int
  | 0 => 0
  | k + 1 => sumE fx fa k + fa k * cl (fx k)
theorem cx_bd {a b d e : Int} {k : Nat} {l h : Int} (h0 : l ≤ a ∧ a ≤ h) (h1 : l ≤ b ∧ b ≤ h) (h2 : l ≤ d ∧ d ≤ h) (h3 : l ≤ e ∧ e ≤ h) : l ≤ cx a b d e k ∧ cx a b d e k ≤ h := by
  unfold cx
  split
  · exact h0
  · split
    · exact h1
    · split
      · exact h2
      · exact h3
theorem sumE_bd (fx : Nat → Int) {fa : Nat → Int} (h : ∀ k, 0 ≤ fa k ∧ fa k ≤ 4096) : ∀ k : Nat, -4096000000 * (k : Int) ≤ sumE fx fa k ∧ sumE fx fa k ≤ 4096000000 * (k : Int)
  | 0 => by simp [sumE]
  | k + 1 => by
    have h1 := sumE_bd fx h k
    have h2 := cl_mulw (fx k) (h k).1 (h k).2
    have e : ((k + 1 : Nat) : Int) = (k : Int) + 1 := by omega
    rw [e]
    unfold sumE
    omega
theorem sumE4 (a b d e a0 a1 a2 a3 : Int) : sumE (cx a b d e) (cx a0 a1 a2 a3) 4 = a0 * cl a + a1 * cl b + a2 * cl d + a3 * cl e := by
  simp [sumE, cx]
theorem cx_at (a b d e : Int) {k : Nat} (h : k < 4) : (#[.int .i64 a, .int .i64 b, .int .i64 d, .int .i64 e] : Array Value)[k]? = some (.int .i64 (cx a b d e k)) := by
  rcases (by omega : k = 0 ∨ k = 1 ∨ k = 2 ∨ k = 3) with rfl | rfl | rfl | rfl <;> rfl
theorem index_patch (p0 p1 p2 p3 p4 p5 p6 p7 p8 p9 p10 p11 : Int) {k : Nat} (h : k < 4) (W : World) : (Instr.index 34 (.agg #[.int .i64 (p0), .int .i64 (p1), .int .i64 (p2), .int .i64 (p3), .int .i64 (p4), .int .i64 (p5), .int .i64 (p6), .int .i64 (p7), .int .i64 (p8), .int .i64 (p9), .int .i64 (p10), .int .i64 (p11)]) (.int .i64 (k : Int))).run Try.prog W = .ok (.agg #[.int .i64 (cx p0 p3 p6 p9 k), .int .i64 (cx p1 p4 p7 p10 k), .int .i64 (cx p2 p5 p8 p11 k)]) W := by
  rcases (by omega : k = 0 ∨ k = 1 ∨ k = 2 ∨ k = 3) with rfl | rfl | rfl | rfl <;> kernel_rfl
set_option maxHeartbeats 8000000 in
theorem evalPatch0 (p0 p1 p2 p3 p4 p5 p6 p7 p8 p9 p10 p11 i j n : Int) (n1 : 1 ≤ n) (n2 : n ≤ 64) (i1 : 0 ≤ i) (i2 : i ≤ n) (j1 : 0 ≤ j) (j2 : j ≤ n) (w : World) :
    Calls Try.prog 23 #[.agg #[.int .i64 (p0), .int .i64 (p1), .int .i64 (p2), .int .i64 (p3), .int .i64 (p4), .int .i64 (p5), .int .i64 (p6), .int .i64 (p7), .int .i64 (p8), .int .i64 (p9), .int .i64 (p10), .int .i64 (p11)], .int .i64 i, .int .i64 j, .int .i64 n] w fun r w' => r = .returned (vec (evW p0 p3 p6 p9 ((n - i) * (n - j)) (i * (n - j)) ((n - i) * j) (i * j) (n * n)) (evW p1 p4 p7 p10 ((n - i) * (n - j)) (i * (n - j)) ((n - i) * j) (i * j) (n * n)) (evW p2 p5 p8 p11 ((n - i) * (n - j)) (i * (n - j)) ((n - i) * j) (i * j) (n * n))) ∧ Below w.heap.size w w' := by
  obtain ⟨g0, g1⟩ := wt_bd (x := n - i) (y := n - j) (by omega) (by omega) (by omega) (by omega)
  obtain ⟨g2, g3⟩ := wt_bd (x := i) (y := n - j) (by omega) (by omega) (by omega) (by omega)
  obtain ⟨g4, g5⟩ := wt_bd (x := n - i) (y := j) (by omega) (by omega) (by omega) (by omega)
  obtain ⟨g6, g7⟩ := wt_bd (x := i) (y := j) (by omega) (by omega) (by omega) (by omega)
  obtain ⟨s1, s2⟩ := sq_bd n1 n2
  obtain ⟨b00, b10, b20, b30, hB0⟩ := blk4 w #[.int .i64 (p0), .int .i64 (p1), .int .i64 (p2), .int .i64 (p3), .int .i64 (p4), .int .i64 (p5), .int .i64 (p6), .int .i64 (p7), .int .i64 (p8), .int .i64 (p9), .int .i64 (p10), .int .i64 (p11)] #[.int .i64 (0), .int .i64 (0), .int .i64 (0)] #[.int .i64 ((n - i) * (n - j)), .int .i64 (i * (n - j)), .int .i64 ((n - i) * j), .int .i64 (i * j)] #[.int .i64 (0), .int .i64 (0), .int .i64 (0)] 36 33 60 33
  go_enter Try.func23, Try.ntmps23
  go_wp2
  generalize (((((w.alloc (.cells #[.int .i64 (p0), .int .i64 (p1), .int .i64 (p2), .int .i64 (p3), .int .i64 (p4), .int .i64 (p5), .int .i64 (p6), .int .i64 (p7), .int .i64 (p8), .int .i64 (p9), .int .i64 (p10), .int .i64 (p11)] 36)).alloc (.cells #[.int .i64 (0), .int .i64 (0), .int .i64 (0)] 33)).alloc (.cells #[.int .i64 ((n - i) * (n - j)), .int .i64 (i * (n - j)), .int .i64 ((n - i) * j), .int .i64 (i * j)] 60)).alloc (.cells #[.int .i64 (0), .int .i64 (0), .int .i64 (0)] 33))) = W0 at hB0 b00 b10 b20 b30 ⊢
  generalize ea0 : (n - i) * (n - j) = a0 at *
  have Ha0 := Lib.hid ea0
  clear ea0
  generalize ea1 : i * (n - j) = a1 at *
  have Ha1 := Lib.hid ea1
  clear ea1
  generalize ea2 : (n - i) * j = a2 at *
  have Ha2 := Lib.hid ea2
  clear ea2
  generalize ea3 : i * j = a3 at *
  have Ha3 := Lib.hid ea3
  clear ea3
  go_loopw [37] (fun s wr => ∃ k : Nat, k ≤ 4 ∧ s = .int .i64 k ∧ Blk wr w.heap.size 36 #[.int .i64 (p0), .int .i64 (p1), .int .i64 (p2), .int .i64 (p3), .int .i64 (p4), .int .i64 (p5), .int .i64 (p6), .int .i64 (p7), .int .i64 (p8), .int .i64 (p9), .int .i64 (p10), .int .i64 (p11)] ∧ Blk wr (w.heap.size + 1) 33 #[.int .i64 (0), .int .i64 (0), .int .i64 (0)] ∧ Blk wr (w.heap.size + 1 + 1) 60 #[.int .i64 (a0), .int .i64 (a1), .int .i64 (a2), .int .i64 (a3)] ∧ Blk wr (w.heap.size + 1 + 1 + 1) 33 #[.int .i64 (sumE (cx p0 p3 p6 p9) (cx a0 a1 a2 a3) k), .int .i64 (sumE (cx p1 p4 p7 p10) (cx a0 a1 a2 a3) k), .int .i64 (sumE (cx p2 p5 p8 p11) (cx a0 a1 a2 a3) k)] ∧ Below w.heap.size w wr) (fun s _ => 4 - (intOf s).toNat)
  case atStart => exact ⟨0, by omega, rfl, b00, b10, b20, b30, hB0⟩
  case round =>
    obtain ⟨k, hk, rfl, b0, b1, b2, b3, hB⟩ := hrel
    clear b00 b10 b20 b30 hB0
    have hfa : ∀ k, 0 ≤ cx a0 a1 a2 a3 k ∧ cx a0 a1 a2 a3 k ≤ 4096 := fun k => cx_bd ⟨g0, g1⟩ ⟨g2, g3⟩ ⟨g4, g5⟩ ⟨g6, g7⟩
    have hs0 := sumE_bd (cx p0 p3 p6 p9) hfa k
    have hs1 := sumE_bd (cx p1 p4 p7 p10) hfa k
    have hs2 := sumE_bd (cx p2 p5 p8 p11) hfa k
    by_cases hlt : k < 4
    · have HI := Lib.hid (index_patch p0 p1 p2 p3 p4 p5 p6 p7 p8 p9 p10 p11 hlt)
      have hm0 := cl_mulw (cx p0 p3 p6 p9 k) (hfa k).1 (hfa k).2
      have hm1 := cl_mulw (cx p1 p4 p7 p10 k) (hfa k).1 (hfa k).2
      have hm2 := cl_mulw (cx p2 p5 p8 p11 k) (hfa k).1 (hfa k).2
      have HT := Lib.hid (times_any (cl (cx p0 p3 p6 p9 k)) (cl (cx p1 p4 p7 p10 k)) (cl (cx p2 p5 p8 p11 k)) (cx a0 a1 a2 a3 k) (by omega) (by omega) (by omega) (by omega) (by omega) (by omega))
      have HP := Lib.hid (plus_any (sumE (cx p0 p3 p6 p9) (cx a0 a1 a2 a3) k) (sumE (cx p1 p4 p7 p10) (cx a0 a1 a2 a3) k) (sumE (cx p2 p5 p8 p11) (cx a0 a1 a2 a3) k) (cx a0 a1 a2 a3 k * cl (cx p0 p3 p6 p9 k)) (cx a0 a1 a2 a3 k * cl (cx p1 p4 p7 p10 k)) (cx a0 a1 a2 a3 k * cl (cx p2 p5 p8 p11 k)) (by omega) (by omega) (by omega) (by omega) (by omega) (by omega) (by omega) (by omega) (by omega) (by omega) (by omega) (by omega))
      have HW := Lib.hid (cx_at a0 a1 a2 a3 hlt)
      have HS0 := Lib.hid (show sumE (cx p0 p3 p6 p9) (cx a0 a1 a2 a3) (k + 1) = sumE (cx p0 p3 p6 p9) (cx a0 a1 a2 a3) k + cx a0 a1 a2 a3 k * cl (cx p0 p3 p6 p9 k) from rfl)
      have HS1 := Lib.hid (show sumE (cx p1 p4 p7 p10) (cx a0 a1 a2 a3) (k + 1) = sumE (cx p1 p4 p7 p10) (cx a0 a1 a2 a3) k + cx a0 a1 a2 a3 k * cl (cx p1 p4 p7 p10 k) from rfl)
      have HS2 := Lib.hid (show sumE (cx p2 p5 p8 p11) (cx a0 a1 a2 a3) (k + 1) = sumE (cx p2 p5 p8 p11) (cx a0 a1 a2 a3) k + cx a0 a1 a2 a3 k * cl (cx p2 p5 p8 p11 k) from rfl)
      clear hs0 hs1 hs2 hm0 hm1 hm2 hfa
      generalize cx p0 p3 p6 p9 k = x0 at *
      generalize cx p1 p4 p7 p10 k = x1 at *
      generalize cx p2 p5 p8 p11 k = x2 at *
      generalize cx a0 a1 a2 a3 k = ak at *
      generalize sumE (cx p0 p3 p6 p9) (cx a0 a1 a2 a3) k = t0 at *
      generalize sumE (cx p1 p4 p7 p10) (cx a0 a1 a2 a3) k = t1 at *
      generalize sumE (cx p2 p5 p8 p11) (cx a0 a1 a2 a3) k = t2 at *
      have hk0 : (0 : Int) ≤ (k : Int) := by omega
      have hk1 : (k : Int) < 4 := by omega
      have hix := HI.out
      clear HI
      have c0 := b0.cell
      have f0 := b0.frozen
      have l0 := b0.lt
      have c1 := b1.cell
      have f1 := b1.frozen
      have l1 := b1.lt
      have c2 := b2.cell
      have f2 := b2.frozen
      have l2 := b2.lt
      have c3 := b3.cell
      have f3 := b3.frozen
      have l3 := b3.lt
      go_wp2_with fail
      clear hix
      have d4_0 := b0.lt
      have d4_1 := b1.lt
      have d4_2 := b2.lt
      have d4_3 := b3.lt
      have g4 := hB.size
      replace b0 := b0.alloc (.cells #[.int .i64 (x0), .int .i64 (x1), .int .i64 (x2)] 33)
      replace b1 := b1.alloc (.cells #[.int .i64 (x0), .int .i64 (x1), .int .i64 (x2)] 33)
      replace b2 := b2.alloc (.cells #[.int .i64 (x0), .int .i64 (x1), .int .i64 (x2)] 33)
      replace b3 := b3.alloc (.cells #[.int .i64 (x0), .int .i64 (x1), .int .i64 (x2)] 33)
      have b4 := Blk.new wr 33 #[.int .i64 (x0), .int .i64 (x1), .int .i64 (x2)]
      replace hB := hB.alloc hB.size (.cells #[.int .i64 (x0), .int .i64 (x1), .int .i64 (x2)] 33)
      clear c0 f0 l0 c1 f1 l1 c2 f2 l2 c3 f3 l3
      generalize wr.heap.size = q4 at b4 g4 d4_0 d4_1 d4_2 d4_3 ⊢
      generalize wr.alloc (.cells #[.int .i64 (x0), .int .i64 (x1), .int .i64 (x2)] 33) = W4 at hB b0 b1 b2 b3 b4 ⊢
      have c0 := b0.cell
      have f0 := b0.frozen
      have l0 := b0.lt
      have c1 := b1.cell
      have f1 := b1.frozen
      have l1 := b1.lt
      have c2 := b2.cell
      have f2 := b2.frozen
      have l2 := b2.lt
      have c3 := b3.cell
      have f3 := b3.frozen
      have l3 := b3.lt
      have c4 := b4.cell
      have f4 := b4.frozen
      have l4 := b4.lt
      clear c2
      have cw := (b2.cell k).trans HW.out
      refine wp_region_tail (S := (fun w' => (∀ i, w'.cell? ⟨w.heap.size + 1 + 1 + 1, i, none⟩ = (#[.int .i64 (t0), .int .i64 (t1), .int .i64 (t2)] : Array Value)[i]?) ∧ (∀ i, w'.cell? ⟨q4, i, none⟩ = (#[.int .i64 (x0), .int .i64 (x1), .int .i64 (x2)] : Array Value)[i]?) ∧ w'.cell? ⟨w.heap.size + 1 + 1, k, none⟩ = some (.int .i64 ak))) 8 (by kernel_rfl) (by kernel_rfl) ⟨b3.drew.cell, b4.drew.cell, (b2.drew.cell k).trans HW.out⟩ (fun hHeld => ?_)
      refine wpAnyH_take (i := 0) (v := ?v0) rfl (by kernel_rfl) (by kernel_rfl) (by kernel_rfl) (fun _ _ _ h => h) (Or.inl ⟨by rfl, ?y0⟩) (by assumption) ?r0
      case y0 => intro W hSw; (try dsimp only at hSw); go_simp; try with_reducible rfl
      try simp only [Act.put]
      try simp only [List.setIfInBounds_toArray]
      try simp only [List.set_cons_succ]
      try simp only [List.set_cons_zero]
      refine wpAnyH_take (i := 1) (v := ?v1) rfl (by kernel_rfl) (by kernel_rfl) (by kernel_rfl) (fun _ _ _ h => h) (Or.inl ⟨by rfl, ?y1⟩) (by assumption) ?r1
      case y1 => intro W hSw; (try dsimp only at hSw); go_simp; try with_reducible rfl
      try simp only [Act.put]
      try simp only [List.setIfInBounds_toArray]
      try simp only [List.set_cons_succ]
      try simp only [List.set_cons_zero]
      refine wpAnyH_take (i := 3) (v := ?v3) rfl (by kernel_rfl) (by kernel_rfl) (by kernel_rfl) (fun _ _ _ h => h) (Or.inl ⟨by rfl, ?y3⟩) (by assumption) ?r3
      case y3 => intro W hSw; (try dsimp only at hSw); go_simp; try with_reducible rfl
      try simp only [Act.put]
      try simp only [List.setIfInBounds_toArray]
      try simp only [List.set_cons_succ]
      try simp only [List.set_cons_zero]
      refine wpAnyH_take (i := 4) (v := ?v4) rfl (by kernel_rfl) (by kernel_rfl) (by kernel_rfl) (fun _ _ _ h => h) (Or.inl ⟨by rfl, ?y4⟩) (by assumption) ?r4
      case y4 => intro W hSw; (try dsimp only at hSw); go_simp; try with_reducible rfl
      try simp only [Act.put]
      try simp only [List.setIfInBounds_toArray]
      try simp only [List.set_cons_succ]
      try simp only [List.set_cons_zero]
      refine wpAnyH_take (i := 5) (v := ?v5) rfl (by kernel_rfl) (by kernel_rfl) (by kernel_rfl) (fun _ _ _ h => h) (Or.inl ⟨by rfl, ?y5⟩) (by assumption) ?r5
      case y5 => intro W hSw; (try dsimp only at hSw); go_simp; try with_reducible rfl
      try simp only [Act.put]
      try simp only [List.setIfInBounds_toArray]
      try simp only [List.set_cons_succ]
      try simp only [List.set_cons_zero]
      refine wpAnyH_ready (rs := [2]) (by kernel_rfl) (by simp) ?_
      refine AllReadyH.cons rfl (fun K hK => ?_) AllReadyH.nil
      go_simp
      (go_at_call 24; refine (clamped_any _ _ _ _).mono ?_; rintro e w1 ⟨rfl, hb⟩; have hB := (by with_reducible first | exact b_keep hb hB | exact b_keep hb hB.drew); replace b0 : Blk w1 _ _ _ := (by with_reducible first | exact Blk.keep hb b0 | exact Blk.keep hb b0.drew); replace b1 : Blk w1 _ _ _ := (by with_reducible first | exact Blk.keep hb b1 | exact Blk.keep hb b1.drew); replace b2 : Blk w1 _ _ _ := (by with_reducible first | exact Blk.keep hb b2 | exact Blk.keep hb b2.drew); replace b3 : Blk w1 _ _ _ := (by with_reducible first | exact Blk.keep hb b3 | exact Blk.keep hb b3.drew); replace b4 : Blk w1 _ _ _ := (by with_reducible first | exact Blk.keep hb b4 | exact Blk.keep hb b4.drew); replace l0 := b0.lt; replace l1 := b1.lt; replace l2 := b2.lt; replace l3 := b3.lt; replace l4 := b4.lt; replace c0 := b0.cell; replace c1 := b1.cell; replace c2 := b2.cell; replace c3 := b3.cell; replace c4 := b4.cell; replace f0 := b0.frozen; replace f1 := b1.frozen; replace f2 := b2.frozen; replace f3 := b3.frozen; replace f4 := b4.frozen)
      refine hK.out _ _ ⟨b3.cell, b4.cell, (b2.cell k).trans HW.out⟩ (fun hHeld => ?_)
      clear hK K
      try simp only [Act.put]
      try simp only [List.setIfInBounds_toArray]
      try simp only [List.set_cons_succ]
      try simp only [List.set_cons_zero]
      refine wpAnyH_ready (rs := [6]) (by kernel_rfl) (by simp) ?_
      refine AllReadyH.cons rfl (fun K hK => ?_) AllReadyH.nil
      go_simp
      (go_at_call 30; with_reducible refine (HT.out _).mono ?_; rintro e w1 ⟨rfl, hb⟩; have hB := (by with_reducible first | exact b_keep hb hB | exact b_keep hb hB.drew); replace b0 : Blk w1 _ _ _ := (by with_reducible first | exact Blk.keep hb b0 | exact Blk.keep hb b0.drew); replace b1 : Blk w1 _ _ _ := (by with_reducible first | exact Blk.keep hb b1 | exact Blk.keep hb b1.drew); replace b2 : Blk w1 _ _ _ := (by with_reducible first | exact Blk.keep hb b2 | exact Blk.keep hb b2.drew); replace b3 : Blk w1 _ _ _ := (by with_reducible first | exact Blk.keep hb b3 | exact Blk.keep hb b3.drew); replace b4 : Blk w1 _ _ _ := (by with_reducible first | exact Blk.keep hb b4 | exact Blk.keep hb b4.drew); replace l0 := b0.lt; replace l1 := b1.lt; replace l2 := b2.lt; replace l3 := b3.lt; replace l4 := b4.lt; replace c0 := b0.cell; replace c1 := b1.cell; replace c2 := b2.cell; replace c3 := b3.cell; replace c4 := b4.cell; replace f0 := b0.frozen; replace f1 := b1.frozen; replace f2 := b2.frozen; replace f3 := b3.frozen; replace f4 := b4.frozen)
      refine hK.out _ _ ⟨b3.cell, b4.cell, (b2.cell k).trans HW.out⟩ (fun hHeld => ?_)
      clear hK K
      try simp only [Act.put]
      try simp only [List.setIfInBounds_toArray]
      try simp only [List.set_cons_succ]
      try simp only [List.set_cons_zero]
      refine wpAnyH_ready (rs := [7]) (by kernel_rfl) (by simp) ?_
      refine AllReadyH.cons rfl (fun K hK => ?_) AllReadyH.nil
      go_simp
      (go_at_call 29; with_reducible refine (HP.out _).mono ?_; rintro e w1 ⟨rfl, hb⟩; have hB := (by with_reducible first | exact b_keep hb hB | exact b_keep hb hB.drew); replace b0 : Blk w1 _ _ _ := (by with_reducible first | exact Blk.keep hb b0 | exact Blk.keep hb b0.drew); replace b1 : Blk w1 _ _ _ := (by with_reducible first | exact Blk.keep hb b1 | exact Blk.keep hb b1.drew); replace b2 : Blk w1 _ _ _ := (by with_reducible first | exact Blk.keep hb b2 | exact Blk.keep hb b2.drew); replace b3 : Blk w1 _ _ _ := (by with_reducible first | exact Blk.keep hb b3 | exact Blk.keep hb b3.drew); replace b4 : Blk w1 _ _ _ := (by with_reducible first | exact Blk.keep hb b4 | exact Blk.keep hb b4.drew); replace l0 := b0.lt; replace l1 := b1.lt; replace l2 := b2.lt; replace l3 := b3.lt; replace l4 := b4.lt; replace c0 := b0.cell; replace c1 := b1.cell; replace c2 := b2.cell; replace c3 := b3.cell; replace c4 := b4.cell; replace f0 := b0.frozen; replace f1 := b1.frozen; replace f2 := b2.frozen; replace f3 := b3.frozen; replace f4 := b4.frozen)
      refine hK.out _ _ ⟨b3.cell, b4.cell, (b2.cell k).trans HW.out⟩ (fun hHeld => ?_)
      clear hK K
      try simp only [Act.put]
      try simp only [List.setIfInBounds_toArray]
      try simp only [List.set_cons_succ]
      try simp only [List.set_cons_zero]
      refine wpAnyH_done (by kernel_rfl) ?_ _
      simp only [withNormal, List.drop_succ_cons, List.drop_zero]
      go_wp2
      go_roundw
      case rel => exact ⟨k + 1, by omega, by go_num, b0.far3 (by omega) _ _ _, b1.far3 (by omega) _ _ _, b2.far3 (by omega) _ _ _, by rw [HS0.out, HS1.out, HS2.out]; exact b3.set3 _ _ _, below_set3 hB (by omega) _ _ _⟩
      case measure => simp [intOf]; omega
    · obtain rfl : k = 4 := by omega
      simp only [sumE4] at b3 hs0 hs1 hs2
      have HV := Lib.hid (over_any (a0 * cl p0 + a1 * cl p3 + a2 * cl p6 + a3 * cl p9) (a0 * cl p1 + a1 * cl p4 + a2 * cl p7 + a3 * cl p10) (a0 * cl p2 + a1 * cl p5 + a2 * cl p8 + a3 * cl p11) (n * n) (by omega) (by omega) (by omega) (by omega) (by omega) (by omega))
      clear hs0 hs1 hs2 hfa
      have HE := Lib.hid (fun a b d e => (show evW a b d e ((n - i) * (n - j)) (i * (n - j)) ((n - i) * j) (i * j) (n * n) = fdZ (a0 * cl a + a1 * cl b + a2 * cl d + a3 * cl e) (n * n) by rw [Ha0.out, Ha1.out, Ha2.out, Ha3.out]; rfl))
      have c0 := b0.cell
      have f0 := b0.frozen
      have l0 := b0.lt
      have c1 := b1.cell
      have f1 := b1.frozen
      have l1 := b1.lt
      have c2 := b2.cell
      have f2 := b2.frozen
      have l2 := b2.lt
      have c3 := b3.cell
      have f3 := b3.frozen
      have l3 := b3.lt
      go_wp2_with fail
      with_reducible refine (HV.out _).mono ?_
      rintro e w1 ⟨rfl, hb⟩
      have hB := (by with_reducible first | exact b_keep hb hB | exact b_keep hb hB.drew)
      replace b0 : Blk w1 _ _ _ := (by with_reducible first | exact Blk.keep hb b0 | exact Blk.keep hb b0.drew)
      replace b1 : Blk w1 _ _ _ := (by with_reducible first | exact Blk.keep hb b1 | exact Blk.keep hb b1.drew)
      replace b2 : Blk w1 _ _ _ := (by with_reducible first | exact Blk.keep hb b2 | exact Blk.keep hb b2.drew)
      replace b3 : Blk w1 _ _ _ := (by with_reducible first | exact Blk.keep hb b3 | exact Blk.keep hb b3.drew)
      replace l0 := b0.lt
      replace l1 := b1.lt
      replace l2 := b2.lt
      replace l3 := b3.lt
      replace c0 := b0.cell
      replace c1 := b1.cell
      replace c2 := b2.cell
      replace c3 := b3.cell
      replace f0 := b0.frozen
      replace f1 := b1.frozen
      replace f2 := b2.frozen
      replace f3 := b3.frozen
      clear hb
      go_wp2
      exact bodyPost_ret (v := vec (evW p0 p3 p6 p9 ((n - i) * (n - j)) (i * (n - j)) ((n - i) * j) (i * j) (n * n)) (evW p1 p4 p7 p10 ((n - i) * (n - j)) (i * (n - j)) ((n - i) * j) (i * j) (n * n)) (evW p2 p5 p8 p11 ((n - i) * (n - j)) (i * (n - j)) ((n - i) * j) (i * j) (n * n))) (by simp [results, Try.results23, go_sem, c1, HE.out]) rfl ⟨rfl, (((hB.setCell (by dsimp only; omega) _).setCell (by dsimp only; omega) _).setCell (by dsimp only; omega) _)⟩
end Go.Proofs.Ytadjnmldgnaabaa
