/- EvalSubPatch, of the program and of the reference; the laws' own copy of a part. -/
import Derived.Test.YtadjnmldgnaabaaEvI
import Derived.Test.YtadjnmldgnaabaaSubP
namespace Go.Proofs.Ytadjnmldgnaabaa
open Go.RowKit

/-- May the part be evaluated there? -/
def esOk (u v m i j n : Int) : Bool := subOk u v m && (inB n 1 64 && (decide (m * n ≤ 64) && (inB i 0 n && inB j 0 n)))
def esF (a b d e u v m i j n : Int) : Int := if esOk u v m i j n then evF a b d e (u * n + i) (v * n + j) (m * n) else 0
theorem esF_no {u v m i j n : Int} (h : esOk u v m i j n = false) (a b d e : Int) : esF a b d e u v m i j n = 0 := by unfold esF; rw [h]; rfl
theorem esF_yes {u v m i j n : Int} (h : esOk u v m i j n = true) (a b d e : Int) : esF a b d e u v m i j n = evF a b d e (u * n + i) (v * n + j) (m * n) := by unfold esF; rw [h]; rfl
theorem subOk_bd {u v m : Int} (h : subOk u v m = true) : 1 ≤ m ∧ m ≤ 64 ∧ 0 ≤ u ∧ u ≤ m - 1 ∧ 0 ≤ v ∧ v ≤ m - 1 := by
  unfold subOk at h
  simp only [Bool.and_eq_true] at h
  obtain ⟨h1, h2, h3⟩ := h
  have a := pw_bd h1
  have b := inB_iff.1 h2
  have c := inB_iff.1 h3
  omega
theorem in_div {m n : Int} (h : 1 ≤ m) (h2 : m ≤ 64) : inB n 1 (64 / m) = (inB n 1 64 && decide (m * n ≤ 64)) := by
  rw [Bool.eq_iff_iff, inB_iff, Bool.and_eq_true, inB_iff, decide_eq_true_eq, Int.le_ediv_iff_mul_le (by omega), Int.mul_comm n m]
  constructor
  · rintro ⟨a, b⟩
    refine ⟨⟨a, ?_⟩, b⟩
    have := Int.mul_le_mul_of_nonneg_right h (by omega : 0 ≤ n)
    omega
  · rintro ⟨⟨a, _⟩, b⟩
    exact ⟨a, b⟩
theorem part_bd {u m n i : Int} (h0 : 0 ≤ u) (h1 : u ≤ m - 1) (n1 : 1 ≤ n) (i1 : 0 ≤ i) (i2 : i ≤ n) : 0 ≤ u * n ∧ u * n ≤ m * n - n ∧ 0 ≤ u * n + i ∧ u * n + i ≤ m * n := by
  have a := Int.mul_nonneg h0 (by omega : 0 ≤ n)
  have b := Int.mul_le_mul_of_nonneg_right h1 (by omega : 0 ≤ n)
  rw [Int.sub_mul, Int.one_mul] at b
  omega
theorem mul_in {m n : Int} (m1 : 1 ≤ m) (m2 : m ≤ 64) (n1 : 1 ≤ n) (n2 : n ≤ 64) : 1 ≤ m * n ∧ m * n ≤ 4096 := by
  have a := Int.mul_pos (by omega : 0 < m) (by omega : 0 < n)
  have b := (wt_bd (x := m) (y := n) (by omega) m2 (by omega) n2).2
  omega

set_option maxHeartbeats 400000 in
theorem toSubPatch_any (x y z : Int) (w : World) :
    Calls Try.prog 6 #[.agg #[.int .i64 (x), .int .i64 (y), .int .i64 (z)]] w
      fun e w' => e = .returned (vec x y z) ∧ Below w.heap.size w w' := by
  go_enter Try.func6, Try.ntmps6
  go_wp2
  exact bodyPost_ret (v := vec x y z) (by simp [results, Try.results6, go_sem]) rfl ⟨rfl, ((((Below.refl _ _).alloc (Nat.le_refl _) _).alloc (by simp) _).alloc (by simp; omega) _)⟩
set_option maxHeartbeats 8000000 in
theorem evalSubI (p0 p1 p2 p3 p4 p5 p6 p7 p8 p9 p10 p11 u v m i j n : Int) (w : World) :
    Calls Try.prog 13 #[.agg #[.int .i64 (p0), .int .i64 (p1), .int .i64 (p2), .int .i64 (p3), .int .i64 (p4), .int .i64 (p5), .int .i64 (p6), .int .i64 (p7), .int .i64 (p8), .int .i64 (p9), .int .i64 (p10), .int .i64 (p11)], .agg #[.int .i64 (u), .int .i64 (v), .int .i64 (m)], .int .i64 i, .int .i64 j, .int .i64 n] w fun r w' => r = .returned (.tuple #[vec (esF p0 p3 p6 p9 u v m i j n) (esF p1 p4 p7 p10 u v m i j n) (esF p2 p5 p8 p11 u v m i j n), .bool (esOk u v m i j n)]) ∧ Below w.heap.size w w' := by
  have hB := below3 w (.cells #[.int .i64 (p0), .int .i64 (p1), .int .i64 (p2), .int .i64 (p3), .int .i64 (p4), .int .i64 (p5), .int .i64 (p6), .int .i64 (p7), .int .i64 (p8), .int .i64 (p9), .int .i64 (p10), .int .i64 (p11)] 36) (.cells #[.int .i64 (u), .int .i64 (v), .int .i64 (m)] 26) (.cells #[.int .i64 (0), .int .i64 (0), .int .i64 (0)] 33)
  obtain ⟨b0, b1, b2⟩ := blk3 w #[.int .i64 (p0), .int .i64 (p1), .int .i64 (p2), .int .i64 (p3), .int .i64 (p4), .int .i64 (p5), .int .i64 (p6), .int .i64 (p7), .int .i64 (p8), .int .i64 (p9), .int .i64 (p10), .int .i64 (p11)] #[.int .i64 (u), .int .i64 (v), .int .i64 (m)] #[.int .i64 (0), .int .i64 (0), .int .i64 (0)] 36 26 33
  go_enter Try.func13, Try.ntmps13
  go_wp2_with fail
  generalize (((w.alloc (.cells #[.int .i64 (p0), .int .i64 (p1), .int .i64 (p2), .int .i64 (p3), .int .i64 (p4), .int .i64 (p5), .int .i64 (p6), .int .i64 (p7), .int .i64 (p8), .int .i64 (p9), .int .i64 (p10), .int .i64 (p11)] 36)).alloc (.cells #[.int .i64 (u), .int .i64 (v), .int .i64 (m)] 26)).alloc (.cells #[.int .i64 (0), .int .i64 (0), .int .i64 (0)] 33)) = W0 at hB b0 b1 b2 ⊢
  have c0 := b0.cell
  have f0 := b0.frozen
  have l0 := b0.lt
  have c1 := b1.cell
  have f1 := b1.frozen
  have l1 := b1.lt
  have c2 := b2.cell
  have f2 := b2.frozen
  have l2 := b2.lt
  refine (isValidSubI _ _ _ _).mono ?_
  rintro e w1 ⟨rfl, hb⟩
  have hB := (by with_reducible first | exact b_keep hb hB | exact b_keep hb hB.drew)
  replace b0 : Blk w1 _ _ _ := (by with_reducible first | exact Blk.keep hb b0 | exact Blk.keep hb b0.drew)
  replace b1 : Blk w1 _ _ _ := (by with_reducible first | exact Blk.keep hb b1 | exact Blk.keep hb b1.drew)
  replace b2 : Blk w1 _ _ _ := (by with_reducible first | exact Blk.keep hb b2 | exact Blk.keep hb b2.drew)
  replace l0 := b0.lt
  replace l1 := b1.lt
  replace l2 := b2.lt
  replace c0 := b0.cell
  replace c1 := b1.cell
  replace c2 := b2.cell
  replace f0 := b0.frozen
  replace f1 := b1.frozen
  replace f2 := b2.frozen
  clear hb
  cases hs : subOk u v m
  · have hs0 := Lib.hid hs
    clear hs
    have ho : esOk u v m i j n = false := by show (subOk u v m && (inB n 1 64 && (decide (m * n ≤ 64) && (inB i 0 n && inB j 0 n)))) = false; rw [hs0.out]; simp
    have HE := Lib.hid (esF_no ho)
    have HO := Lib.hid ho
    clear ho
    go_wp2
    exact bodyPost_ret (v := .tuple #[vec (esF p0 p3 p6 p9 u v m i j n) (esF p1 p4 p7 p10 u v m i j n) (esF p2 p5 p8 p11 u v m i j n), .bool (esOk u v m i j n)]) (by simp [results, Try.results13, go_sem, c2, HE.out, HO.out]) rfl ⟨rfl, (((hB.setCell (by dsimp only; omega) _).setCell (by dsimp only; omega) _).setCell (by dsimp only; omega) _)⟩
  · obtain ⟨m1, m2, u1, u2, v1, v2⟩ := subOk_bd hs
    have hs0 := Lib.hid hs
    clear hs
    have hq := in_div (n := n) m1 m2
    have HQ := Lib.hid hq
    clear hq
    cases h1 : inB n 1 (64 / m)
    · have k1 := Lib.hid (show (inB n 1 64 && decide (m * n ≤ 64)) = false by rw [← HQ.out]; exact h1)
      have ho : esOk u v m i j n = false := by show (subOk u v m && (inB n 1 64 && (decide (m * n ≤ 64) && (inB i 0 n && inB j 0 n)))) = false; rw [hs0.out, ← Bool.and_assoc (inB n 1 64), k1.out]; simp
      have HE := Lib.hid (esF_no ho)
      have HO := Lib.hid ho
      clear ho
      go_wp2_with (go_at_call 22; refine (within_any _ _ _ _).mono ?_; rintro r w' ⟨rfl, rfl⟩)
      exact bodyPost_ret (v := .tuple #[vec (esF p0 p3 p6 p9 u v m i j n) (esF p1 p4 p7 p10 u v m i j n) (esF p2 p5 p8 p11 u v m i j n), .bool (esOk u v m i j n)]) (by simp [results, Try.results13, go_sem, c2, HE.out, HO.out]) rfl ⟨rfl, (((hB.setCell (by dsimp only; omega) _).setCell (by dsimp only; omega) _).setCell (by dsimp only; omega) _)⟩
    · have hb : (inB n 1 64 && decide (m * n ≤ 64)) = true := by rw [← HQ.out]; exact h1
      have k1 := Lib.hid hb
      simp only [Bool.and_eq_true, decide_eq_true_eq] at hb
      obtain ⟨hn, hmn⟩ := hb
      obtain ⟨n1, n2⟩ := inB_iff.1 hn
      clear hn
      obtain ⟨mn1, mn2⟩ := mul_in m1 m2 n1 n2
      cases h2 : inB i 0 n
      · have k2 := Lib.hid h2
        have ho : esOk u v m i j n = false := by show (subOk u v m && (inB n 1 64 && (decide (m * n ≤ 64) && (inB i 0 n && inB j 0 n)))) = false; rw [k2.out]; simp
        have HE := Lib.hid (esF_no ho)
        have HO := Lib.hid ho
        clear ho
        go_wp2_with (go_at_call 22; refine (within_any _ _ _ _).mono ?_; rintro r w' ⟨rfl, rfl⟩)
        exact bodyPost_ret (v := .tuple #[vec (esF p0 p3 p6 p9 u v m i j n) (esF p1 p4 p7 p10 u v m i j n) (esF p2 p5 p8 p11 u v m i j n), .bool (esOk u v m i j n)]) (by simp [results, Try.results13, go_sem, c2, HE.out, HO.out]) rfl ⟨rfl, (((hB.setCell (by dsimp only; omega) _).setCell (by dsimp only; omega) _).setCell (by dsimp only; omega) _)⟩
      · cases h3 : inB j 0 n
        · have k3 := Lib.hid h3
          have ho : esOk u v m i j n = false := by show (subOk u v m && (inB n 1 64 && (decide (m * n ≤ 64) && (inB i 0 n && inB j 0 n)))) = false; rw [k3.out]; simp
          have HE := Lib.hid (esF_no ho)
          have HO := Lib.hid ho
          clear ho
          go_wp2_with (go_at_call 22; refine (within_any _ _ _ _).mono ?_; rintro r w' ⟨rfl, rfl⟩)
          exact bodyPost_ret (v := .tuple #[vec (esF p0 p3 p6 p9 u v m i j n) (esF p1 p4 p7 p10 u v m i j n) (esF p2 p5 p8 p11 u v m i j n), .bool (esOk u v m i j n)]) (by simp [results, Try.results13, go_sem, c2, HE.out, HO.out]) rfl ⟨rfl, (((hB.setCell (by dsimp only; omega) _).setCell (by dsimp only; omega) _).setCell (by dsimp only; omega) _)⟩
        · have ho : esOk u v m i j n = true := by show (subOk u v m && (inB n 1 64 && (decide (m * n ≤ 64) && (inB i 0 n && inB j 0 n)))) = true; rw [hs0.out, ← Bool.and_assoc (inB n 1 64), k1.out, h2, h3]; rfl
          obtain ⟨i1, i2⟩ := inB_iff.1 h2
          obtain ⟨j1, j2⟩ := inB_iff.1 h3
          obtain ⟨x1, x2, x3, x4⟩ := part_bd u1 u2 n1 i1 i2
          obtain ⟨y1, y2, y3, y4⟩ := part_bd v1 v2 n1 j1 j2
          have hE : ∀ a b d e, esF a b d e u v m i j n = evW a b d e ((m * n - (u * n + i)) * (m * n - (v * n + j))) ((u * n + i) * (m * n - (v * n + j))) ((m * n - (u * n + i)) * (v * n + j)) ((u * n + i) * (v * n + j)) (m * n * (m * n)) := fun a b d e =>
            (esF_yes ho a b d e).trans (evF_yes (inB_iff.2 ⟨mn1, hmn⟩) (inB_iff.2 ⟨x3, x4⟩) (inB_iff.2 ⟨y3, y4⟩) a b d e)
          have HE := Lib.hid hE
          have HO := Lib.hid ho
          clear ho hE
          have HV := Lib.hid (evalPatch0 p0 p1 p2 p3 p4 p5 p6 p7 p8 p9 p10 p11 (u * n + i) (v * n + j) (m * n) mn1 hmn x3 x4 y3 y4)
          go_wp2_with (go_at_call 22; refine (within_any _ _ _ _).mono ?_; rintro r w' ⟨rfl, rfl⟩)
          refine (HV.out _).mono ?_
          rintro e w1 ⟨rfl, hb⟩
          have hB := (by with_reducible first | exact b_keep hb hB | exact b_keep hb hB.drew)
          replace b0 : Blk w1 _ _ _ := (by with_reducible first | exact Blk.keep hb b0 | exact Blk.keep hb b0.drew)
          replace b1 : Blk w1 _ _ _ := (by with_reducible first | exact Blk.keep hb b1 | exact Blk.keep hb b1.drew)
          replace b2 : Blk w1 _ _ _ := (by with_reducible first | exact Blk.keep hb b2 | exact Blk.keep hb b2.drew)
          replace l0 := b0.lt
          replace l1 := b1.lt
          replace l2 := b2.lt
          replace c0 := b0.cell
          replace c1 := b1.cell
          replace c2 := b2.cell
          replace f0 := b0.frozen
          replace f1 := b1.frozen
          replace f2 := b2.frozen
          clear hb
          go_wp2
          exact bodyPost_ret (v := .tuple #[vec (esF p0 p3 p6 p9 u v m i j n) (esF p1 p4 p7 p10 u v m i j n) (esF p2 p5 p8 p11 u v m i j n), .bool (esOk u v m i j n)]) (by simp [results, Try.results13, go_sem, c2, HE.out, HO.out]) rfl ⟨rfl, (((hB.setCell (by dsimp only; omega) _).setCell (by dsimp only; omega) _).setCell (by dsimp only; omega) _)⟩
end Go.Proofs.Ytadjnmldgnaabaa
