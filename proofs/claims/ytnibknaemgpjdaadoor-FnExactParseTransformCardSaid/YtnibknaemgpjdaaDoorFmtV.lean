/- FormatVec, of the program and of the reference. -/
import Derived.Test.YtnibknaemgpjdaaDoorFmtL
import Derived.Test.YtnibknaemgpjdaaDoorVec3
namespace Go.Proofs.YtnibknaemgpjdaaDoor
open Go Go.RowKit Go.Sort

/-- The text of a vector; empty where it is not valid. -/
def fmtV (x y z : Int) : List UInt8 := if vb x y z then fmtInts [x, y, z] else []
def txV (x y z : Int) : ByteArray := ⟨(fmtV x y z).toArray⟩
theorem vb_iff {x y z : Int} : vb x y z = true ↔ (-1000000 ≤ x ∧ x ≤ 1000000) ∧ (-1000000 ≤ y ∧ y ≤ 1000000) ∧ (-1000000 ≤ z ∧ z ≤ 1000000) := by
  unfold vb
  simp only [Bool.and_eq_true, decide_eq_true_eq]
  rw [eq_comm (a := x), eq_comm (a := y), eq_comm (a := z), cl_iff, cl_iff, cl_iff]
theorem ints3 {w : World} {g : Nat} {t : TypeId} {x y z : Int} (h : Blk w g t #[.int .i64 (x), .int .i64 (y), .int .i64 (z)]) : IntsAt w (.slice (some ⟨g, 0, none⟩) 3 3) [x, y, z] := by
  refine ⟨_, _, rfl, fun _ => ⟨g, 0, rfl, h.lt, fun i hi => ?_⟩⟩
  rw [h.cell]
  rcases (by simp at hi; omega : i = 0 ∨ i = 1 ∨ i = 2) with rfl | rfl | rfl <;> rfl
theorem inR_of {n : Int} (h : -1000000 ≤ n ∧ n ≤ 1000000) : inR n = true := inR_iff.2 ⟨by omega, by omega⟩
theorem vb_in {x y z : Int} (h : vb x y z = true) : ∀ n ∈ [x, y, z], inR n = true := by
  obtain ⟨h1, h2, h3⟩ := vb_iff.1 h
  intro n hn
  simp only [List.mem_cons, List.not_mem_nil, or_false] at hn
  rcases hn with rfl | rfl | rfl
  · exact inR_of h1
  · exact inR_of h2
  · exact inR_of h3
theorem txInts_size {xs : List Int} (h : ∀ n ∈ xs, inR n = true) (hl : xs.length ≤ 16) : (⟨(fmtInts xs).toArray⟩ : ByteArray).size ≤ 256 := by
  rw [size_data, data_mk]
  by_cases h0 : xs = []
  · subst h0; rw [fmtInts_nil]; decide
  · rw [fmtInts_in h0 h]
    have h1 := joinL_len ⟨#[44]⟩ (xs.map strZ)
    have h2 := tot_strZ h
    rw [data_strZ, List.length_map] at h1
    have h3 : (⟨#[44]⟩ : ByteArray).size = 1 := rfl
    have h4 : (⟨#[44]⟩ : ByteArray).data.toList = [44] := rfl
    rw [h3, h4] at h1
    omega
theorem txV_size (x y z : Int) : (txV x y z).size ≤ 256 := by
  unfold txV fmtV
  cases h : vb x y z with
  | true => exact txInts_size (vb_in h) (by simp)
  | false => exact Nat.zero_le _
def VecRes (x y z : Int) (w : World) (e : Ending) (w' : World) : Prop := e = .returned (.string (txV x y z)) ∧ Below w.heap.size w w'
theorem vecRes_mk {x y z : Int} {w w' : World} {l : List UInt8} (h : fmtV x y z = l) (hb : Below w.heap.size w w') : VecRes x y z w (.returned (.string ⟨l.toArray⟩)) w' := ⟨by unfold txV; rw [h], hb⟩

set_option maxHeartbeats 1000000 in
theorem fmtVecI (x y z : Int) (w : World) (hT : Tab w) : Calls Tryd.prog 27 #[.agg #[.int .i64 (x), .int .i64 (y), .int .i64 (z)]] w (VecRes x y z w) := by
  have hB := below1 w (.cells #[.int .i64 (x), .int .i64 (y), .int .i64 (z)] 23)
  have b0 := Blk.new w 23 #[.int .i64 (x), .int .i64 (y), .int .i64 (z)]
  have HT := Lib.hid hT
  clear hT
  go_enter Tryd.func27, Tryd.ntmps27
  go_wp2_with fail
  generalize w.alloc (.cells #[.int .i64 (x), .int .i64 (y), .int .i64 (z)] 23) = W0 at hB b0 ⊢
  have c0 := b0.cell
  have f0 := b0.frozen
  have l0 := b0.lt
  refine (isValidVecI _ _ _ _).mono ?_
  rintro e w1 ⟨rfl, hb⟩
  have hB := (by with_reducible first | exact b_keep hb hB | exact b_keep hb hB.drew)
  replace b0 : Blk w1 _ _ _ := (by with_reducible first | exact Blk.keep hb b0 | exact Blk.keep hb b0.drew)
  replace l0 := b0.lt
  replace c0 := b0.cell
  replace f0 := b0.frozen
  clear hb
  cases hv : vb x y z with
  | false =>
    have HV : Hid (fmtV x y z = []) := by show fmtV x y z = []; unfold fmtV; rw [hv]; rfl
    clear hv
    go_wp2
    go_ret
    exact vecRes_mk HV.out hB
  | true =>
    have HV : Hid (fmtV x y z = fmtInts [x, y, z]) := by show fmtV x y z = _; unfold fmtV; rw [hv]; rfl
    clear hv
    have b1 := Blk.new w1 3 #[.int .i64 (x), .int .i64 (y), .int .i64 (z)]
    have hB1 := hB.alloc hB.size (.cells #[.int .i64 (x), .int .i64 (y), .int .i64 (z)] 3)
    go_wp2_with fail
    generalize w1.alloc (.cells #[.int .i64 (x), .int .i64 (y), .int .i64 (z)] 3) = W1 at hB1 b1 ⊢
    refine (fmtIntsI _ _ W1 (ints3 b1) (by simp) (HT.out.keep hB1)).mono ?_
    rintro e w2 ⟨rfl, hb⟩
    clear b1
    go_wp2
    go_ret
    exact vecRes_mk HV.out (b_keep hb hB1)
set_option maxHeartbeats 1000000 in
theorem fmtVecS (x y z : Int) (w : World) : Calls Tryd.prog 78 #[.agg #[.int .i64 (x), .int .i64 (y), .int .i64 (z)]] w (VecRes x y z w) := by
  have hB := below1 w (.cells #[.int .i64 (x), .int .i64 (y), .int .i64 (z)] 23)
  have b0 := Blk.new w 23 #[.int .i64 (x), .int .i64 (y), .int .i64 (z)]
  go_enter Tryd.func78, Tryd.ntmps78
  go_wp2_with fail
  generalize w.alloc (.cells #[.int .i64 (x), .int .i64 (y), .int .i64 (z)] 23) = W0 at hB b0 ⊢
  have c0 := b0.cell
  have f0 := b0.frozen
  have l0 := b0.lt
  refine (isValidVecS _ _ _ _).mono ?_
  rintro e w1 ⟨rfl, hb⟩
  have hB := (by with_reducible first | exact b_keep hb hB | exact b_keep hb hB.drew)
  replace b0 : Blk w1 _ _ _ := (by with_reducible first | exact Blk.keep hb b0 | exact Blk.keep hb b0.drew)
  replace l0 := b0.lt
  replace c0 := b0.cell
  replace f0 := b0.frozen
  clear hb
  cases hv : vb x y z with
  | false =>
    have HV : Hid (fmtV x y z = []) := by show fmtV x y z = []; unfold fmtV; rw [hv]; rfl
    clear hv
    go_wp2
    go_ret
    exact vecRes_mk HV.out hB
  | true =>
    have HV : Hid (fmtV x y z = fmtInts [x, y, z]) := by show fmtV x y z = _; unfold fmtV; rw [hv]; rfl
    clear hv
    have b1 := Blk.new w1 3 #[.int .i64 (x), .int .i64 (y), .int .i64 (z)]
    have hB1 := hB.alloc hB.size (.cells #[.int .i64 (x), .int .i64 (y), .int .i64 (z)] 3)
    go_wp2_with fail
    generalize w1.alloc (.cells #[.int .i64 (x), .int .i64 (y), .int .i64 (z)] 3) = W1 at hB1 b1 ⊢
    refine (fmtIntsS _ _ W1 (ints3 b1) (by simp)).mono ?_
    rintro e w2 ⟨rfl, hb⟩
    clear b1
    go_wp2
    go_ret
    exact vecRes_mk HV.out (b_keep hb hB1)
end Go.Proofs.YtnibknaemgpjdaaDoor
