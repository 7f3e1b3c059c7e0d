/- IsValidTransform, of the program and of the reference. -/
import Derived.Test.YtnibknaemgpjdaaDoorToArr
import Derived.Test.YtnibknaemgpjdaaDoorVec3
namespace Go.Proofs.YtnibknaemgpjdaaDoor
open Go.RowKit

/-- All coefficients are in range. -/
def okM (xs : List Int) : Bool := xs.all fun m => inB m (-64) 64
def vbT (m0 m1 m2 m3 m4 m5 m6 m7 m8 x y z : Int) : Bool := okM [m0, m1, m2, m3, m4, m5, m6, m7, m8] && vb x y z
theorem okM_no {xs : List Int} {m : Int} (h : m ∈ xs) (hm : inB m (-64) 64 = false) : okM xs = false := by
  unfold okM
  rw [List.all_eq_false]
  exact ⟨m, h, by simp [hm]⟩

set_option maxHeartbeats 2000000 in
theorem allWithin_any (xs : List Int) (b off cap : Nat) (w : World) (hn : xs.length ≤ 1048576) (hc : ∀ i, i < xs.length → w.cell? ⟨b, off + i, none⟩ = some (.int .i64 (xs[i]?.getD 0))) :
    Calls Tryd.prog 85 #[.slice (some ⟨b, off, none⟩) xs.length cap, .int .i64 (-64), .int .i64 64] w fun e w' => e = .returned (.bool (okM xs)) ∧ w = w' := by
  have HC := Lib.hid hc
  clear hc
  go_enter Tryd.func85, Tryd.ntmps85
  go_wp2
  go_loop [11] (fun j => ∃ k : Nat, k ≤ xs.length ∧ j = .int .i64 k ∧ Hid (∀ i, i < k → inB (xs[i]?.getD 0) (-64) 64 = true)) (fun j => xs.length - (intOf j).toNat)
  case atStart => exact ⟨0, by omega, rfl, Lib.hid (fun i hi => by omega)⟩
  case round =>
    obtain ⟨k, hk, rfl, HA⟩ := hrel
    by_cases hlt : k < xs.length
    · have hx : xs[k]?.getD 0 = xs[k]'hlt := by rw [List.getElem?_eq_getElem hlt]; rfl
      have hcell := HC.out k hlt
      rw [hx] at hcell
      have HX := Lib.hid hx
      clear hx
      cases hv : inB (xs[k]'hlt) (-64) 64
      · have hf : okM xs = false := okM_no (m := xs[k]'hlt) (List.getElem_mem hlt) hv
        have HF := Lib.hid hf
        clear hf
        go_wp2_with (go_at_call 68; refine (within_any _ _ _ _).mono ?_; rintro e w' ⟨rfl, rfl⟩)
        go_ret
        exact ⟨ret_bool HF.out.symm, rfl⟩
      · have HV := Lib.hid hv
        go_wp2_with (go_at_call 68; refine (within_any _ _ _ _).mono ?_; rintro e w' ⟨rfl, rfl⟩)
        go_round
        case rel =>
          refine ⟨k + 1, by omega, by go_num, Lib.hid (fun i hi => ?_)⟩
          rcases (by omega : i < k ∨ i = k) with h | h
          · exact HA.out i h
          · rw [h, HX.out]
            exact HV.out
        case measure => simp [intOf]; omega
    · go_wp2
      go_ret
      refine ⟨ret_bool ?_, rfl⟩
      symm
      unfold okM
      rw [List.all_eq_true]
      intro m hm
      obtain ⟨i, hi, rfl⟩ := List.mem_iff_getElem.1 hm
      have := HA.out i (by omega)
      rw [List.getElem?_eq_getElem hi] at this
      simpa using this
set_option maxHeartbeats 4000000 in
theorem isValidTransformI (m0 m1 m2 m3 m4 m5 m6 m7 m8 x y z : Int) (w : World) :
    Calls Tryd.prog 48 #[.agg #[.int .i64 (m0), .int .i64 (m1), .int .i64 (m2), .int .i64 (m3), .int .i64 (m4), .int .i64 (m5), .int .i64 (m6), .int .i64 (m7), .int .i64 (m8), .int .i64 (x), .int .i64 (y), .int .i64 (z)]] w fun e w' => e = .returned (.bool (vbT m0 m1 m2 m3 m4 m5 m6 m7 m8 x y z)) ∧ Below w.heap.size w w' := by
  have hB := below1 w (.cells #[.int .i64 (m0), .int .i64 (m1), .int .i64 (m2), .int .i64 (m3), .int .i64 (m4), .int .i64 (m5), .int .i64 (m6), .int .i64 (m7), .int .i64 (m8), .int .i64 (x), .int .i64 (y), .int .i64 (z)] 33)
  have b0 := Blk.new w 33 #[.int .i64 (m0), .int .i64 (m1), .int .i64 (m2), .int .i64 (m3), .int .i64 (m4), .int .i64 (m5), .int .i64 (m6), .int .i64 (m7), .int .i64 (m8), .int .i64 (x), .int .i64 (y), .int .i64 (z)]
  have HS := Lib.hid (show vbT m0 m1 m2 m3 m4 m5 m6 m7 m8 x y z = (okM [m0, m1, m2, m3, m4, m5, m6, m7, m8] && vb x y z) from rfl)
  go_enter Tryd.func48, Tryd.ntmps48
  go_wp2_with fail
  generalize w.alloc (.cells #[.int .i64 (m0), .int .i64 (m1), .int .i64 (m2), .int .i64 (m3), .int .i64 (m4), .int .i64 (m5), .int .i64 (m6), .int .i64 (m7), .int .i64 (m8), .int .i64 (x), .int .i64 (y), .int .i64 (z)] 33) = W0 at hB b0 ⊢
  have HC : ∀ i, i < [m0, m1, m2, m3, m4, m5, m6, m7, m8].length → W0.cell? ⟨w.heap.size, 0 + i, none⟩ = some (.int .i64 ([m0, m1, m2, m3, m4, m5, m6, m7, m8][i]?.getD 0)) := by
    intro i hi
    have hi' : i < 9 := hi
    rw [b0.cell]
    rcases (by omega : i = 0 ∨ i = 1 ∨ i = 2 ∨ i = 3 ∨ i = 4 ∨ i = 5 ∨ i = 6 ∨ i = 7 ∨ i = 8) with rfl | rfl | rfl | rfl | rfl | rfl | rfl | rfl | rfl <;> rfl
  have H := Lib.hid (allWithin_any [m0, m1, m2, m3, m4, m5, m6, m7, m8] w.heap.size 0 9 W0 (by simp) HC)
  clear HC
  have c0 := b0.cell
  have f0 := b0.frozen
  have l0 := b0.lt
  refine (H.out).mono ?_
  rintro e w1 ⟨rfl, rfl⟩
  clear H
  cases h1 : okM [m0, m1, m2, m3, m4, m5, m6, m7, m8]
  · go_wp2
    go_ret
    exact ⟨ret_bool (by rw [HS.out, h1]; rfl), hB⟩
  · go_wp2_with fail
    refine (isValidVecI _ _ _ _).mono ?_
    rintro e w1 ⟨rfl, hb⟩
    have hB := (by with_reducible first | exact b_keep hb hB | exact b_keep hb hB.drew)
    replace b0 : Blk w1 _ _ _ := (by with_reducible first | exact Blk.keep hb b0 | exact Blk.keep hb b0.drew)
    replace l0 := b0.lt
    replace c0 := b0.cell
    replace f0 := b0.frozen
    clear hb
    go_wp2
    go_ret
    exact ⟨ret_bool (by rw [HS.out, h1]; rfl), hB⟩
set_option maxHeartbeats 8000000 in
theorem isValidTransformS (m0 m1 m2 m3 m4 m5 m6 m7 m8 x y z : Int) (w : World) :
    Calls Tryd.prog 82 #[.agg #[.int .i64 (m0), .int .i64 (m1), .int .i64 (m2), .int .i64 (m3), .int .i64 (m4), .int .i64 (m5), .int .i64 (m6), .int .i64 (m7), .int .i64 (m8), .int .i64 (x), .int .i64 (y), .int .i64 (z)]] w fun e w' => e = .returned (.bool (vbT m0 m1 m2 m3 m4 m5 m6 m7 m8 x y z)) ∧ Below w.heap.size w w' := by
  have hB := below1 w (.cells #[.int .i64 (m0), .int .i64 (m1), .int .i64 (m2), .int .i64 (m3), .int .i64 (m4), .int .i64 (m5), .int .i64 (m6), .int .i64 (m7), .int .i64 (m8), .int .i64 (x), .int .i64 (y), .int .i64 (z)] 33)
  have b0 := Blk.new w 33 #[.int .i64 (m0), .int .i64 (m1), .int .i64 (m2), .int .i64 (m3), .int .i64 (m4), .int .i64 (m5), .int .i64 (m6), .int .i64 (m7), .int .i64 (m8), .int .i64 (x), .int .i64 (y), .int .i64 (z)]
  have i0 : ∀ W, (Instr.index 31 (.agg #[.int .i64 (m0), .int .i64 (m1), .int .i64 (m2), .int .i64 (m3), .int .i64 (m4), .int .i64 (m5), .int .i64 (m6), .int .i64 (m7), .int .i64 (m8)]) (.int .i64 0)).run Tryd.prog W = .ok (.int .i64 m0) W := fun _ => by kernel_rfl
  have i1 : ∀ W, (Instr.index 31 (.agg #[.int .i64 (m0), .int .i64 (m1), .int .i64 (m2), .int .i64 (m3), .int .i64 (m4), .int .i64 (m5), .int .i64 (m6), .int .i64 (m7), .int .i64 (m8)]) (.int .i64 1)).run Tryd.prog W = .ok (.int .i64 m1) W := fun _ => by kernel_rfl
  have i2 : ∀ W, (Instr.index 31 (.agg #[.int .i64 (m0), .int .i64 (m1), .int .i64 (m2), .int .i64 (m3), .int .i64 (m4), .int .i64 (m5), .int .i64 (m6), .int .i64 (m7), .int .i64 (m8)]) (.int .i64 2)).run Tryd.prog W = .ok (.int .i64 m2) W := fun _ => by kernel_rfl
  have i3 : ∀ W, (Instr.index 31 (.agg #[.int .i64 (m0), .int .i64 (m1), .int .i64 (m2), .int .i64 (m3), .int .i64 (m4), .int .i64 (m5), .int .i64 (m6), .int .i64 (m7), .int .i64 (m8)]) (.int .i64 3)).run Tryd.prog W = .ok (.int .i64 m3) W := fun _ => by kernel_rfl
  have i4 : ∀ W, (Instr.index 31 (.agg #[.int .i64 (m0), .int .i64 (m1), .int .i64 (m2), .int .i64 (m3), .int .i64 (m4), .int .i64 (m5), .int .i64 (m6), .int .i64 (m7), .int .i64 (m8)]) (.int .i64 4)).run Tryd.prog W = .ok (.int .i64 m4) W := fun _ => by kernel_rfl
  have i5 : ∀ W, (Instr.index 31 (.agg #[.int .i64 (m0), .int .i64 (m1), .int .i64 (m2), .int .i64 (m3), .int .i64 (m4), .int .i64 (m5), .int .i64 (m6), .int .i64 (m7), .int .i64 (m8)]) (.int .i64 5)).run Tryd.prog W = .ok (.int .i64 m5) W := fun _ => by kernel_rfl
  have i6 : ∀ W, (Instr.index 31 (.agg #[.int .i64 (m0), .int .i64 (m1), .int .i64 (m2), .int .i64 (m3), .int .i64 (m4), .int .i64 (m5), .int .i64 (m6), .int .i64 (m7), .int .i64 (m8)]) (.int .i64 6)).run Tryd.prog W = .ok (.int .i64 m6) W := fun _ => by kernel_rfl
  have i7 : ∀ W, (Instr.index 31 (.agg #[.int .i64 (m0), .int .i64 (m1), .int .i64 (m2), .int .i64 (m3), .int .i64 (m4), .int .i64 (m5), .int .i64 (m6), .int .i64 (m7), .int .i64 (m8)]) (.int .i64 7)).run Tryd.prog W = .ok (.int .i64 m7) W := fun _ => by kernel_rfl
  have i8 : ∀ W, (Instr.index 31 (.agg #[.int .i64 (m0), .int .i64 (m1), .int .i64 (m2), .int .i64 (m3), .int .i64 (m4), .int .i64 (m5), .int .i64 (m6), .int .i64 (m7), .int .i64 (m8)]) (.int .i64 8)).run Tryd.prog W = .ok (.int .i64 m8) W := fun _ => by kernel_rfl
  have HS := Lib.hid (show vbT m0 m1 m2 m3 m4 m5 m6 m7 m8 x y z = (okM [m0, m1, m2, m3, m4, m5, m6, m7, m8] && vb x y z) from rfl)
  have HN : ∀ m, m ∈ [m0, m1, m2, m3, m4, m5, m6, m7, m8] → Hid (inB m (-64) 64 = false → okM [m0, m1, m2, m3, m4, m5, m6, m7, m8] = false) := fun m hm => Lib.hid (okM_no hm)
  go_enter Tryd.func82, Tryd.ntmps82
  go_wp2
  generalize w.alloc (.cells #[.int .i64 (m0), .int .i64 (m1), .int .i64 (m2), .int .i64 (m3), .int .i64 (m4), .int .i64 (m5), .int .i64 (m6), .int .i64 (m7), .int .i64 (m8), .int .i64 (x), .int .i64 (y), .int .i64 (z)] 33) = W0 at hB b0 ⊢
  have c0 := b0.cell
  have f0 := b0.frozen
  have l0 := b0.lt
  go_loop [7] (fun j => ∃ k : Nat, k ≤ 9 ∧ j = .int .i64 k ∧ Hid ((1 ≤ k → inB m0 (-64) 64 = true) ∧ (2 ≤ k → inB m1 (-64) 64 = true) ∧ (3 ≤ k → inB m2 (-64) 64 = true) ∧ (4 ≤ k → inB m3 (-64) 64 = true) ∧ (5 ≤ k → inB m4 (-64) 64 = true) ∧ (6 ≤ k → inB m5 (-64) 64 = true) ∧ (7 ≤ k → inB m6 (-64) 64 = true) ∧ (8 ≤ k → inB m7 (-64) 64 = true) ∧ (9 ≤ k → inB m8 (-64) 64 = true))) (fun j => 9 - (intOf j).toNat)
  case atStart => exact ⟨0, by omega, rfl, Lib.hid ⟨by omega, by omega, by omega, by omega, by omega, by omega, by omega, by omega, by omega⟩⟩
  case round =>
    obtain ⟨k, hk, rfl, HA⟩ := hrel
    rcases (by omega : k = 0 ∨ k = 1 ∨ k = 2 ∨ k = 3 ∨ k = 4 ∨ k = 5 ∨ k = 6 ∨ k = 7 ∨ k = 8 ∨ k = 9) with rfl | rfl | rfl | rfl | rfl | rfl | rfl | rfl | rfl | rfl
    · clear i1 i2 i3 i4 i5 i6 i7 i8 c0 f0 l0 b0
      have HNk := HN m0 (by simp)
      clear HN
      cases tk : inB m0 (-64) 64
      · have HF := Lib.hid (HNk.out tk)
        go_wp2_with (go_at_call 100; refine (l01In_any _ _ _ _).mono ?_; rintro e w' ⟨rfl, rfl⟩)
        go_ret
        exact ⟨ret_bool (by rw [HS.out, HF.out]; rfl), hB⟩
      · have TK := Lib.hid tk
        go_wp2_with (go_at_call 100; refine (l01In_any _ _ _ _).mono ?_; rintro e w' ⟨rfl, rfl⟩)
        go_round
        case rel =>
          obtain ⟨a0, a1, a2, a3, a4, a5, a6, a7, a8⟩ := HA.out
          exact ⟨1, by omega, by go_num, Lib.hid ⟨(by first | exact fun _ => TK.out | exact fun _ => trivial), by omega, by omega, by omega, by omega, by omega, by omega, by omega, by omega⟩⟩
        case measure => simp [intOf]
    · clear i0 i2 i3 i4 i5 i6 i7 i8 c0 f0 l0 b0
      have HNk := HN m1 (by simp)
      clear HN
      cases tk : inB m1 (-64) 64
      · have HF := Lib.hid (HNk.out tk)
        go_wp2_with (go_at_call 100; refine (l01In_any _ _ _ _).mono ?_; rintro e w' ⟨rfl, rfl⟩)
        go_ret
        exact ⟨ret_bool (by rw [HS.out, HF.out]; rfl), hB⟩
      · have TK := Lib.hid tk
        go_wp2_with (go_at_call 100; refine (l01In_any _ _ _ _).mono ?_; rintro e w' ⟨rfl, rfl⟩)
        go_round
        case rel =>
          obtain ⟨a0, a1, a2, a3, a4, a5, a6, a7, a8⟩ := HA.out
          exact ⟨2, by omega, by go_num, Lib.hid ⟨fun _ => a0 (by omega), (by first | exact fun _ => TK.out | exact fun _ => trivial), by omega, by omega, by omega, by omega, by omega, by omega, by omega⟩⟩
        case measure => simp [intOf]
    · clear i0 i1 i3 i4 i5 i6 i7 i8 c0 f0 l0 b0
      have HNk := HN m2 (by simp)
      clear HN
      cases tk : inB m2 (-64) 64
      · have HF := Lib.hid (HNk.out tk)
        go_wp2_with (go_at_call 100; refine (l01In_any _ _ _ _).mono ?_; rintro e w' ⟨rfl, rfl⟩)
        go_ret
        exact ⟨ret_bool (by rw [HS.out, HF.out]; rfl), hB⟩
      · have TK := Lib.hid tk
        go_wp2_with (go_at_call 100; refine (l01In_any _ _ _ _).mono ?_; rintro e w' ⟨rfl, rfl⟩)
        go_round
        case rel =>
          obtain ⟨a0, a1, a2, a3, a4, a5, a6, a7, a8⟩ := HA.out
          exact ⟨3, by omega, by go_num, Lib.hid ⟨fun _ => a0 (by omega), fun _ => a1 (by omega), (by first | exact fun _ => TK.out | exact fun _ => trivial), by omega, by omega, by omega, by omega, by omega, by omega⟩⟩
        case measure => simp [intOf]
    · clear i0 i1 i2 i4 i5 i6 i7 i8 c0 f0 l0 b0
      have HNk := HN m3 (by simp)
      clear HN
      cases tk : inB m3 (-64) 64
      · have HF := Lib.hid (HNk.out tk)
        go_wp2_with (go_at_call 100; refine (l01In_any _ _ _ _).mono ?_; rintro e w' ⟨rfl, rfl⟩)
        go_ret
        exact ⟨ret_bool (by rw [HS.out, HF.out]; rfl), hB⟩
      · have TK := Lib.hid tk
        go_wp2_with (go_at_call 100; refine (l01In_any _ _ _ _).mono ?_; rintro e w' ⟨rfl, rfl⟩)
        go_round
        case rel =>
          obtain ⟨a0, a1, a2, a3, a4, a5, a6, a7, a8⟩ := HA.out
          exact ⟨4, by omega, by go_num, Lib.hid ⟨fun _ => a0 (by omega), fun _ => a1 (by omega), fun _ => a2 (by omega), (by first | exact fun _ => TK.out | exact fun _ => trivial), by omega, by omega, by omega, by omega, by omega⟩⟩
        case measure => simp [intOf]
    · clear i0 i1 i2 i3 i5 i6 i7 i8 c0 f0 l0 b0
      have HNk := HN m4 (by simp)
      clear HN
      cases tk : inB m4 (-64) 64
      · have HF := Lib.hid (HNk.out tk)
        go_wp2_with (go_at_call 100; refine (l01In_any _ _ _ _).mono ?_; rintro e w' ⟨rfl, rfl⟩)
        go_ret
        exact ⟨ret_bool (by rw [HS.out, HF.out]; rfl), hB⟩
      · have TK := Lib.hid tk
        go_wp2_with (go_at_call 100; refine (l01In_any _ _ _ _).mono ?_; rintro e w' ⟨rfl, rfl⟩)
        go_round
        case rel =>
          obtain ⟨a0, a1, a2, a3, a4, a5, a6, a7, a8⟩ := HA.out
          exact ⟨5, by omega, by go_num, Lib.hid ⟨fun _ => a0 (by omega), fun _ => a1 (by omega), fun _ => a2 (by omega), fun _ => a3 (by omega), (by first | exact fun _ => TK.out | exact fun _ => trivial), by omega, by omega, by omega, by omega⟩⟩
        case measure => simp [intOf]
    · clear i0 i1 i2 i3 i4 i6 i7 i8 c0 f0 l0 b0
      have HNk := HN m5 (by simp)
      clear HN
      cases tk : inB m5 (-64) 64
      · have HF := Lib.hid (HNk.out tk)
        go_wp2_with (go_at_call 100; refine (l01In_any _ _ _ _).mono ?_; rintro e w' ⟨rfl, rfl⟩)
        go_ret
        exact ⟨ret_bool (by rw [HS.out, HF.out]; rfl), hB⟩
      · have TK := Lib.hid tk
        go_wp2_with (go_at_call 100; refine (l01In_any _ _ _ _).mono ?_; rintro e w' ⟨rfl, rfl⟩)
        go_round
        case rel =>
          obtain ⟨a0, a1, a2, a3, a4, a5, a6, a7, a8⟩ := HA.out
          exact ⟨6, by omega, by go_num, Lib.hid ⟨fun _ => a0 (by omega), fun _ => a1 (by omega), fun _ => a2 (by omega), fun _ => a3 (by omega), fun _ => a4 (by omega), (by first | exact fun _ => TK.out | exact fun _ => trivial), by omega, by omega, by omega⟩⟩
        case measure => simp [intOf]
    · clear i0 i1 i2 i3 i4 i5 i7 i8 c0 f0 l0 b0
      have HNk := HN m6 (by simp)
      clear HN
      cases tk : inB m6 (-64) 64
      · have HF := Lib.hid (HNk.out tk)
        go_wp2_with (go_at_call 100; refine (l01In_any _ _ _ _).mono ?_; rintro e w' ⟨rfl, rfl⟩)
        go_ret
        exact ⟨ret_bool (by rw [HS.out, HF.out]; rfl), hB⟩
      · have TK := Lib.hid tk
        go_wp2_with (go_at_call 100; refine (l01In_any _ _ _ _).mono ?_; rintro e w' ⟨rfl, rfl⟩)
        go_round
        case rel =>
          obtain ⟨a0, a1, a2, a3, a4, a5, a6, a7, a8⟩ := HA.out
          exact ⟨7, by omega, by go_num, Lib.hid ⟨fun _ => a0 (by omega), fun _ => a1 (by omega), fun _ => a2 (by omega), fun _ => a3 (by omega), fun _ => a4 (by omega), fun _ => a5 (by omega), (by first | exact fun _ => TK.out | exact fun _ => trivial), by omega, by omega⟩⟩
        case measure => simp [intOf]
    · clear i0 i1 i2 i3 i4 i5 i6 i8 c0 f0 l0 b0
      have HNk := HN m7 (by simp)
      clear HN
      cases tk : inB m7 (-64) 64
      · have HF := Lib.hid (HNk.out tk)
        go_wp2_with (go_at_call 100; refine (l01In_any _ _ _ _).mono ?_; rintro e w' ⟨rfl, rfl⟩)
        go_ret
        exact ⟨ret_bool (by rw [HS.out, HF.out]; rfl), hB⟩
      · have TK := Lib.hid tk
        go_wp2_with (go_at_call 100; refine (l01In_any _ _ _ _).mono ?_; rintro e w' ⟨rfl, rfl⟩)
        go_round
        case rel =>
          obtain ⟨a0, a1, a2, a3, a4, a5, a6, a7, a8⟩ := HA.out
          exact ⟨8, by omega, by go_num, Lib.hid ⟨fun _ => a0 (by omega), fun _ => a1 (by omega), fun _ => a2 (by omega), fun _ => a3 (by omega), fun _ => a4 (by omega), fun _ => a5 (by omega), fun _ => a6 (by omega), (by first | exact fun _ => TK.out | exact fun _ => trivial), by omega⟩⟩
        case measure => simp [intOf]
    · clear i0 i1 i2 i3 i4 i5 i6 i7 c0 f0 l0 b0
      have HNk := HN m8 (by simp)
      clear HN
      cases tk : inB m8 (-64) 64
      · have HF := Lib.hid (HNk.out tk)
        go_wp2_with (go_at_call 100; refine (l01In_any _ _ _ _).mono ?_; rintro e w' ⟨rfl, rfl⟩)
        go_ret
        exact ⟨ret_bool (by rw [HS.out, HF.out]; rfl), hB⟩
      · have TK := Lib.hid tk
        go_wp2_with (go_at_call 100; refine (l01In_any _ _ _ _).mono ?_; rintro e w' ⟨rfl, rfl⟩)
        go_round
        case rel =>
          obtain ⟨a0, a1, a2, a3, a4, a5, a6, a7, a8⟩ := HA.out
          exact ⟨9, by omega, by go_num, Lib.hid ⟨fun _ => a0 (by omega), fun _ => a1 (by omega), fun _ => a2 (by omega), fun _ => a3 (by omega), fun _ => a4 (by omega), fun _ => a5 (by omega), fun _ => a6 (by omega), fun _ => a7 (by omega), (by first | exact fun _ => TK.out | exact fun _ => trivial)⟩⟩
        case measure => simp [intOf]
    · have HF : Hid (okM [m0, m1, m2, m3, m4, m5, m6, m7, m8] = true) := Lib.hid (by
        obtain ⟨a0, a1, a2, a3, a4, a5, a6, a7, a8⟩ := HA.out
        unfold okM
        simp only [List.all_cons, List.all_nil, a0 (by omega), a1 (by omega), a2 (by omega), a3 (by omega), a4 (by omega), a5 (by omega), a6 (by omega), a7 (by omega), a8 (by omega)]
        rfl)
      clear i0 i1 i2 i3 i4 i5 i6 i7 i8 HN
      go_wp2_with fail
      refine (isValidVecS _ _ _ _).mono ?_
      rintro e w1 ⟨rfl, hb⟩
      have hB := (by with_reducible first | exact b_keep hb hB | exact b_keep hb hB.drew)
      replace b0 : Blk w1 _ _ _ := (by with_reducible first | exact Blk.keep hb b0 | exact Blk.keep hb b0.drew)
      replace l0 := b0.lt
      replace c0 := b0.cell
      replace f0 := b0.frozen
      clear hb
      go_wp2
      go_ret
      exact ⟨ret_bool (by rw [HS.out, HF.out]; rfl), hB⟩
end Go.Proofs.YtnibknaemgpjdaaDoor
