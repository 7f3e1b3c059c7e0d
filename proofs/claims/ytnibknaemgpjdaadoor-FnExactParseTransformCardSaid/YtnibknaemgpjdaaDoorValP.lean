/- IsValidPatch, of the program and of the reference. -/
import Derived.Test.YtnibknaemgpjdaaDoorToArr
import Derived.Test.YtnibknaemgpjdaaDoorVec3
namespace Go.Proofs.YtnibknaemgpjdaaDoor
open Go.RowKit

/-- A valid patch. -/
def vbP (p0 p1 p2 p3 p4 p5 p6 p7 p8 p9 p10 p11 : Int) : Bool := vb p0 p1 p2 && (vb p3 p4 p5 && (vb p6 p7 p8 && vb p9 p10 p11))

set_option maxHeartbeats 8000000 in
theorem isValidPatchI (p0 p1 p2 p3 p4 p5 p6 p7 p8 p9 p10 p11 : Int) (w : World) :
    Calls Tryd.prog 74 #[.agg #[.int .i64 (p0), .int .i64 (p1), .int .i64 (p2), .int .i64 (p3), .int .i64 (p4), .int .i64 (p5), .int .i64 (p6), .int .i64 (p7), .int .i64 (p8), .int .i64 (p9), .int .i64 (p10), .int .i64 (p11)]] w fun e w' => e = .returned (.bool (vbP p0 p1 p2 p3 p4 p5 p6 p7 p8 p9 p10 p11)) ∧ Below w.heap.size w w' := by
  have hB0 := below1 w (.cells #[.int .i64 (p0), .int .i64 (p1), .int .i64 (p2), .int .i64 (p3), .int .i64 (p4), .int .i64 (p5), .int .i64 (p6), .int .i64 (p7), .int .i64 (p8), .int .i64 (p9), .int .i64 (p10), .int .i64 (p11)] 26)
  have i0 : ∀ W, (Instr.index 24 (.agg #[.int .i64 (p0), .int .i64 (p1), .int .i64 (p2), .int .i64 (p3), .int .i64 (p4), .int .i64 (p5), .int .i64 (p6), .int .i64 (p7), .int .i64 (p8), .int .i64 (p9), .int .i64 (p10), .int .i64 (p11)]) (.int .i64 0)).run Tryd.prog W = .ok (.agg #[.int .i64 (p0), .int .i64 (p1), .int .i64 (p2)]) W := fun _ => by kernel_rfl
  have i1 : ∀ W, (Instr.index 24 (.agg #[.int .i64 (p0), .int .i64 (p1), .int .i64 (p2), .int .i64 (p3), .int .i64 (p4), .int .i64 (p5), .int .i64 (p6), .int .i64 (p7), .int .i64 (p8), .int .i64 (p9), .int .i64 (p10), .int .i64 (p11)]) (.int .i64 1)).run Tryd.prog W = .ok (.agg #[.int .i64 (p3), .int .i64 (p4), .int .i64 (p5)]) W := fun _ => by kernel_rfl
  have i2 : ∀ W, (Instr.index 24 (.agg #[.int .i64 (p0), .int .i64 (p1), .int .i64 (p2), .int .i64 (p3), .int .i64 (p4), .int .i64 (p5), .int .i64 (p6), .int .i64 (p7), .int .i64 (p8), .int .i64 (p9), .int .i64 (p10), .int .i64 (p11)]) (.int .i64 2)).run Tryd.prog W = .ok (.agg #[.int .i64 (p6), .int .i64 (p7), .int .i64 (p8)]) W := fun _ => by kernel_rfl
  have i3 : ∀ W, (Instr.index 24 (.agg #[.int .i64 (p0), .int .i64 (p1), .int .i64 (p2), .int .i64 (p3), .int .i64 (p4), .int .i64 (p5), .int .i64 (p6), .int .i64 (p7), .int .i64 (p8), .int .i64 (p9), .int .i64 (p10), .int .i64 (p11)]) (.int .i64 3)).run Tryd.prog W = .ok (.agg #[.int .i64 (p9), .int .i64 (p10), .int .i64 (p11)]) W := fun _ => by kernel_rfl
  have HS := Lib.hid (show vbP p0 p1 p2 p3 p4 p5 p6 p7 p8 p9 p10 p11 = (vb p0 p1 p2 && (vb p3 p4 p5 && (vb p6 p7 p8 && vb p9 p10 p11))) from rfl)
  go_enter Tryd.func74, Tryd.ntmps74
  go_wp2
  generalize w.alloc (.cells #[.int .i64 (p0), .int .i64 (p1), .int .i64 (p2), .int .i64 (p3), .int .i64 (p4), .int .i64 (p5), .int .i64 (p6), .int .i64 (p7), .int .i64 (p8), .int .i64 (p9), .int .i64 (p10), .int .i64 (p11)] 26) = W0 at hB0 ⊢
  go_loopw [7] (fun j wr => ∃ k : Nat, k ≤ 4 ∧ j = .int .i64 k ∧ (1 ≤ k → vb p0 p1 p2 = true) ∧ (2 ≤ k → vb p3 p4 p5 = true) ∧ (3 ≤ k → vb p6 p7 p8 = true) ∧ (4 ≤ k → vb p9 p10 p11 = true) ∧ Below w.heap.size w wr) (fun j _ => 4 - (intOf j).toNat)
  case atStart => exact ⟨0, by omega, rfl, by omega, by omega, by omega, by omega, hB0⟩
  case round =>
    obtain ⟨k, hk, rfl, v0, v1, v2, v3, hB⟩ := hrel
    clear hB0
    rcases (by omega : k = 0 ∨ k = 1 ∨ k = 2 ∨ k = 3 ∨ k = 4) with rfl | rfl | rfl | rfl | rfl
    · clear v0 v1 v2 v3
      clear i1 i2 i3
      go_wp2_with fail
      have hB1 := hB.alloc hB.size (.cells #[.int .i64 (p0), .int .i64 (p1), .int .i64 (p2)] 23)
      refine (isValidVecI _ _ _ _).mono ?_
      rintro e w1 ⟨rfl, hb⟩
      replace hB := b_keep hb hB1
      clear hB1 hb
      cases tk : vb p0 p1 p2
      · go_wp2
        go_ret
        exact ⟨ret_bool (by rw [HS.out, tk]; rfl), hB⟩
      · go_wp2
        go_roundw
        case rel => exact ⟨1, by omega, by go_num, fun _ => tk, by omega, by omega, by omega, hB⟩
        case measure => simp [intOf]
    · have t0 := v0 (by omega)
      clear v0 v1 v2 v3
      have T0 := Lib.hid t0
      clear t0
      clear i0 i2 i3
      go_wp2_with fail
      have hB1 := hB.alloc hB.size (.cells #[.int .i64 (p3), .int .i64 (p4), .int .i64 (p5)] 23)
      refine (isValidVecI _ _ _ _).mono ?_
      rintro e w1 ⟨rfl, hb⟩
      replace hB := b_keep hb hB1
      clear hB1 hb
      cases tk : vb p3 p4 p5
      · go_wp2
        go_ret
        exact ⟨ret_bool (by rw [HS.out, T0.out, tk]; rfl), hB⟩
      · go_wp2
        go_roundw
        case rel => exact ⟨2, by omega, by go_num, fun _ => T0.out, fun _ => tk, by omega, by omega, hB⟩
        case measure => simp [intOf]
    · have t0 := v0 (by omega)
      have t1 := v1 (by omega)
      clear v0 v1 v2 v3
      have T0 := Lib.hid t0
      clear t0
      have T1 := Lib.hid t1
      clear t1
      clear i0 i1 i3
      go_wp2_with fail
      have hB1 := hB.alloc hB.size (.cells #[.int .i64 (p6), .int .i64 (p7), .int .i64 (p8)] 23)
      refine (isValidVecI _ _ _ _).mono ?_
      rintro e w1 ⟨rfl, hb⟩
      replace hB := b_keep hb hB1
      clear hB1 hb
      cases tk : vb p6 p7 p8
      · go_wp2
        go_ret
        exact ⟨ret_bool (by rw [HS.out, T0.out, T1.out, tk]; rfl), hB⟩
      · go_wp2
        go_roundw
        case rel => exact ⟨3, by omega, by go_num, fun _ => T0.out, fun _ => T1.out, fun _ => tk, by omega, hB⟩
        case measure => simp [intOf]
    · have t0 := v0 (by omega)
      have t1 := v1 (by omega)
      have t2 := v2 (by omega)
      clear v0 v1 v2 v3
      have T0 := Lib.hid t0
      clear t0
      have T1 := Lib.hid t1
      clear t1
      have T2 := Lib.hid t2
      clear t2
      clear i0 i1 i2
      go_wp2_with fail
      have hB1 := hB.alloc hB.size (.cells #[.int .i64 (p9), .int .i64 (p10), .int .i64 (p11)] 23)
      refine (isValidVecI _ _ _ _).mono ?_
      rintro e w1 ⟨rfl, hb⟩
      replace hB := b_keep hb hB1
      clear hB1 hb
      cases tk : vb p9 p10 p11
      · go_wp2
        go_ret
        exact ⟨ret_bool (by rw [HS.out, T0.out, T1.out, T2.out, tk]; rfl), hB⟩
      · go_wp2
        go_roundw
        case rel => exact ⟨4, by omega, by go_num, fun _ => T0.out, fun _ => T1.out, fun _ => T2.out, fun _ => tk, hB⟩
        case measure => simp [intOf]
    · have t0 := v0 (by omega)
      have t1 := v1 (by omega)
      have t2 := v2 (by omega)
      have t3 := v3 (by omega)
      clear v0 v1 v2 v3
      have T0 := Lib.hid t0
      clear t0
      have T1 := Lib.hid t1
      clear t1
      have T2 := Lib.hid t2
      clear t2
      have T3 := Lib.hid t3
      clear t3
      clear i0 i1 i2 i3
      go_wp2
      go_ret
      exact ⟨ret_bool (by rw [HS.out, T0.out, T1.out, T2.out, T3.out]; rfl), hB⟩
set_option maxHeartbeats 8000000 in
theorem isValidPatchS (p0 p1 p2 p3 p4 p5 p6 p7 p8 p9 p10 p11 : Int) (w : World) :
    Calls Tryd.prog 79 #[.agg #[.int .i64 (p0), .int .i64 (p1), .int .i64 (p2), .int .i64 (p3), .int .i64 (p4), .int .i64 (p5), .int .i64 (p6), .int .i64 (p7), .int .i64 (p8), .int .i64 (p9), .int .i64 (p10), .int .i64 (p11)]] w fun e w' => e = .returned (.bool (vbP p0 p1 p2 p3 p4 p5 p6 p7 p8 p9 p10 p11)) ∧ Below w.heap.size w w' := by
  have hB0 := below1 w (.cells #[.int .i64 (p0), .int .i64 (p1), .int .i64 (p2), .int .i64 (p3), .int .i64 (p4), .int .i64 (p5), .int .i64 (p6), .int .i64 (p7), .int .i64 (p8), .int .i64 (p9), .int .i64 (p10), .int .i64 (p11)] 26)
  have i0 : ∀ W, (Instr.index 24 (.agg #[.int .i64 (p0), .int .i64 (p1), .int .i64 (p2), .int .i64 (p3), .int .i64 (p4), .int .i64 (p5), .int .i64 (p6), .int .i64 (p7), .int .i64 (p8), .int .i64 (p9), .int .i64 (p10), .int .i64 (p11)]) (.int .i64 0)).run Tryd.prog W = .ok (.agg #[.int .i64 (p0), .int .i64 (p1), .int .i64 (p2)]) W := fun _ => by kernel_rfl
  have i1 : ∀ W, (Instr.index 24 (.agg #[.int .i64 (p0), .int .i64 (p1), .int .i64 (p2), .int .i64 (p3), .int .i64 (p4), .int .i64 (p5), .int .i64 (p6), .int .i64 (p7), .int .i64 (p8), .int .i64 (p9), .int .i64 (p10), .int .i64 (p11)]) (.int .i64 1)).run Tryd.prog W = .ok (.agg #[.int .i64 (p3), .int .i64 (p4), .int .i64 (p5)]) W := fun _ => by kernel_rfl
  have i2 : ∀ W, (Instr.index 24 (.agg #[.int .i64 (p0), .int .i64 (p1), .int .i64 (p2), .int .i64 (p3), .int .i64 (p4), .int .i64 (p5), .int .i64 (p6), .int .i64 (p7), .int .i64 (p8), .int .i64 (p9), .int .i64 (p10), .int .i64 (p11)]) (.int .i64 2)).run Tryd.prog W = .ok (.agg #[.int .i64 (p6), .int .i64 (p7), .int .i64 (p8)]) W := fun _ => by kernel_rfl
  have i3 : ∀ W, (Instr.index 24 (.agg #[.int .i64 (p0), .int .i64 (p1), .int .i64 (p2), .int .i64 (p3), .int .i64 (p4), .int .i64 (p5), .int .i64 (p6), .int .i64 (p7), .int .i64 (p8), .int .i64 (p9), .int .i64 (p10), .int .i64 (p11)]) (.int .i64 3)).run Tryd.prog W = .ok (.agg #[.int .i64 (p9), .int .i64 (p10), .int .i64 (p11)]) W := fun _ => by kernel_rfl
  have HS := Lib.hid (show vbP p0 p1 p2 p3 p4 p5 p6 p7 p8 p9 p10 p11 = (vb p0 p1 p2 && (vb p3 p4 p5 && (vb p6 p7 p8 && vb p9 p10 p11))) from rfl)
  go_enter Tryd.func79, Tryd.ntmps79
  go_wp2
  generalize w.alloc (.cells #[.int .i64 (p0), .int .i64 (p1), .int .i64 (p2), .int .i64 (p3), .int .i64 (p4), .int .i64 (p5), .int .i64 (p6), .int .i64 (p7), .int .i64 (p8), .int .i64 (p9), .int .i64 (p10), .int .i64 (p11)] 26) = W0 at hB0 ⊢
  go_loopw [7] (fun j wr => ∃ k : Nat, k ≤ 4 ∧ j = .int .i64 k ∧ (1 ≤ k → vb p0 p1 p2 = true) ∧ (2 ≤ k → vb p3 p4 p5 = true) ∧ (3 ≤ k → vb p6 p7 p8 = true) ∧ (4 ≤ k → vb p9 p10 p11 = true) ∧ Below w.heap.size w wr) (fun j _ => 4 - (intOf j).toNat)
  case atStart => exact ⟨0, by omega, rfl, by omega, by omega, by omega, by omega, hB0⟩
  case round =>
    obtain ⟨k, hk, rfl, v0, v1, v2, v3, hB⟩ := hrel
    clear hB0
    rcases (by omega : k = 0 ∨ k = 1 ∨ k = 2 ∨ k = 3 ∨ k = 4) with rfl | rfl | rfl | rfl | rfl
    · clear v0 v1 v2 v3
      clear i1 i2 i3
      go_wp2_with fail
      have hB1 := hB.alloc hB.size (.cells #[.int .i64 (p0), .int .i64 (p1), .int .i64 (p2)] 23)
      refine (isValidVecS _ _ _ _).mono ?_
      rintro e w1 ⟨rfl, hb⟩
      replace hB := b_keep hb hB1
      clear hB1 hb
      cases tk : vb p0 p1 p2
      · go_wp2
        go_ret
        exact ⟨ret_bool (by rw [HS.out, tk]; rfl), hB⟩
      · go_wp2
        go_roundw
        case rel => exact ⟨1, by omega, by go_num, fun _ => tk, by omega, by omega, by omega, hB⟩
        case measure => simp [intOf]
    · have t0 := v0 (by omega)
      clear v0 v1 v2 v3
      have T0 := Lib.hid t0
      clear t0
      clear i0 i2 i3
      go_wp2_with fail
      have hB1 := hB.alloc hB.size (.cells #[.int .i64 (p3), .int .i64 (p4), .int .i64 (p5)] 23)
      refine (isValidVecS _ _ _ _).mono ?_
      rintro e w1 ⟨rfl, hb⟩
      replace hB := b_keep hb hB1
      clear hB1 hb
      cases tk : vb p3 p4 p5
      · go_wp2
        go_ret
        exact ⟨ret_bool (by rw [HS.out, T0.out, tk]; rfl), hB⟩
      · go_wp2
        go_roundw
        case rel => exact ⟨2, by omega, by go_num, fun _ => T0.out, fun _ => tk, by omega, by omega, hB⟩
        case measure => simp [intOf]
    · have t0 := v0 (by omega)
      have t1 := v1 (by omega)
      clear v0 v1 v2 v3
      have T0 := Lib.hid t0
      clear t0
      have T1 := Lib.hid t1
      clear t1
      clear i0 i1 i3
      go_wp2_with fail
      have hB1 := hB.alloc hB.size (.cells #[.int .i64 (p6), .int .i64 (p7), .int .i64 (p8)] 23)
      refine (isValidVecS _ _ _ _).mono ?_
      rintro e w1 ⟨rfl, hb⟩
      replace hB := b_keep hb hB1
      clear hB1 hb
      cases tk : vb p6 p7 p8
      · go_wp2
        go_ret
        exact ⟨ret_bool (by rw [HS.out, T0.out, T1.out, tk]; rfl), hB⟩
      · go_wp2
        go_roundw
        case rel => exact ⟨3, by omega, by go_num, fun _ => T0.out, fun _ => T1.out, fun _ => tk, by omega, hB⟩
        case measure => simp [intOf]
    · have t0 := v0 (by omega)
      have t1 := v1 (by omega)
      have t2 := v2 (by omega)
      clear v0 v1 v2 v3
      have T0 := Lib.hid t0
      clear t0
      have T1 := Lib.hid t1
      clear t1
      have T2 := Lib.hid t2
      clear t2
      clear i0 i1 i2
      go_wp2_with fail
      have hB1 := hB.alloc hB.size (.cells #[.int .i64 (p9), .int .i64 (p10), .int .i64 (p11)] 23)
      refine (isValidVecS _ _ _ _).mono ?_
      rintro e w1 ⟨rfl, hb⟩
      replace hB := b_keep hb hB1
      clear hB1 hb
      cases tk : vb p9 p10 p11
      · go_wp2
        go_ret
        exact ⟨ret_bool (by rw [HS.out, T0.out, T1.out, T2.out, tk]; rfl), hB⟩
      · go_wp2
        go_roundw
        case rel => exact ⟨4, by omega, by go_num, fun _ => T0.out, fun _ => T1.out, fun _ => T2.out, fun _ => tk, hB⟩
        case measure => simp [intOf]
    · have t0 := v0 (by omega)
      have t1 := v1 (by omega)
      have t2 := v2 (by omega)
      have t3 := v3 (by omega)
      clear v0 v1 v2 v3
      have T0 := Lib.hid t0
      clear t0
      have T1 := Lib.hid t1
      clear t1
      have T2 := Lib.hid t2
      clear t2
      have T3 := Lib.hid t3
      clear t3
      clear i0 i1 i2 i3
      go_wp2
      go_ret
      exact ⟨ret_bool (by rw [HS.out, T0.out, T1.out, T2.out, T3.out]; rfl), hB⟩
end Go.Proofs.YtnibknaemgpjdaaDoor
