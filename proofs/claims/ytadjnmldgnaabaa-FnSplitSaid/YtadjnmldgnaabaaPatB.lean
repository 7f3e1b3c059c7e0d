/- Four corners in a block of twelve cells. -/
import Derived.Test.YtadjnmldgnaabaaBlk
import Derived.Test.YtadjnmldgnaabaaNum
import Derived.Lib.Hide
namespace Go.Proofs.Ytadjnmldgnaabaa
open Go Go.RowKit

abbrev V3 := Int × Int × Int
/-- Corner i; nought beyond the end. -/
def vat (vs : List V3) (i : Nat) : V3 := vs[i]?.getD (0, 0, 0)
/-- The twelve numbers of four corners. -/
def cells4 (vs : List V3) : Array Value :=
  #[.int .i64 (vat vs 0).1, .int .i64 (vat vs 0).2.1, .int .i64 (vat vs 0).2.2, .int .i64 (vat vs 1).1, .int .i64 (vat vs 1).2.1, .int .i64 (vat vs 1).2.2,
    .int .i64 (vat vs 2).1, .int .i64 (vat vs 2).2.1, .int .i64 (vat vs 2).2.2, .int .i64 (vat vs 3).1, .int .i64 (vat vs 3).2.1, .int .i64 (vat vs 3).2.2]
theorem cells4_nil : cells4 [] = #[.int .i64 (0), .int .i64 (0), .int .i64 (0), .int .i64 (0), .int .i64 (0), .int .i64 (0), .int .i64 (0), .int .i64 (0), .int .i64 (0), .int .i64 (0), .int .i64 (0), .int .i64 (0)] := rfl
theorem cells4_snoc {vs : List V3} (v : V3) {k : Nat} (hk : vs.length = k) (h4 : k < 4) :
    (((cells4 vs).setIfInBounds (k * 3) (.int .i64 v.1)).setIfInBounds (k * 3 + 1) (.int .i64 v.2.1)).setIfInBounds (k * 3 + 2) (.int .i64 v.2.2) = cells4 (vs ++ [v]) := by
  subst hk
  match vs, h4 with
  | [], _ => rfl
  | [_], _ => rfl
  | [_, _], _ => rfl
  | [_, _, _], _ => rfl
theorem cells4_some {vs : List V3} {j : Nat} (h : j < 12) : ∃ n : Int, (cells4 vs)[j]? = some (.int .i64 n) := by
  have : j = 0 ∨ j = 1 ∨ j = 2 ∨ j = 3 ∨ j = 4 ∨ j = 5 ∨ j = 6 ∨ j = 7 ∨ j = 8 ∨ j = 9 ∨ j = 10 ∨ j = 11 := by omega
  rcases this with rfl | rfl | rfl | rfl | rfl | rfl | rfl | rfl | rfl | rfl | rfl | rfl <;> exact ⟨_, rfl⟩
theorem vat_mem {vs : List V3} {i : Nat} (h : i < vs.length) : vat vs i ∈ vs := by
  unfold vat
  rw [List.getElem?_eq_getElem h]
  exact List.getElem_mem h
theorem four_of {vs : List V3} (h : vs.length = 4) : vs = [vat vs 0, vat vs 1, vat vs 2, vat vs 3] := by
  match vs, h with
  | [_, _, _, _], _ => rfl
theorem blk_set3 {w : World} {g : Nat} {t : TypeId} {vs : List V3} {k : Nat} (h : Blk w g t (cells4 vs)) (v : V3) (hk : vs.length = k) (h4 : k < 4) :
    Blk (((w.setCell ⟨g, k * 3, none⟩ (.int .i64 v.1)).setCell ⟨g, k * 3 + 1, none⟩ (.int .i64 v.2.1)).setCell ⟨g, k * 3 + 2, none⟩ (.int .i64 v.2.2)) g t (cells4 (vs ++ [v])) := by
  rw [← cells4_snoc v hk h4]
  exact ((h.set_ (k * 3) _).set_ (k * 3 + 1) _).set_ (k * 3 + 2) _
theorem blk_far3 {w : World} {g g' : Nat} {t : TypeId} {cs : Array Value} (h : Blk w g t cs) (hne : g ≠ g') (i j k : Nat) (a b c : Value) :
    Blk (((w.setCell ⟨g', i, none⟩ a).setCell ⟨g', j, none⟩ b).setCell ⟨g', k, none⟩ c) g t cs :=
  ((h.far (p := ⟨g', i, none⟩) hne a).far (p := ⟨g', j, none⟩) hne b).far (p := ⟨g', k, none⟩) hne c
theorem below_at3 {B : Nat} {w0 w : World} (h : Below B w0 w) {g' : Nat} (hp : B ≤ g') (i j k : Nat) (a b c : Value) : Below B w0 (((w.setCell ⟨g', i, none⟩ a).setCell ⟨g', j, none⟩ b).setCell ⟨g', k, none⟩ c) :=
  ((h.setCell (p := ⟨g', i, none⟩) hp a).setCell (p := ⟨g', j, none⟩) hp b).setCell (p := ⟨g', k, none⟩) hp c
theorem info_patch : (Try.prog.info? 36).map (·.size) = some 12 := by kernel_rfl
theorem blk_row12 {w : World} {g : Nat} {t : TypeId} {cs : Array Value} (h : Blk w g t cs) (hs : cs.size = 12) (x0 x1 x2 x3 x4 x5 x6 x7 x8 x9 x10 x11 : Value) :
    Blk (((((((((((((w.setCell ⟨g, 0, none⟩ x0).setCell ⟨g, 1, none⟩ x1).setCell ⟨g, 2, none⟩ x2).setCell ⟨g, 3, none⟩ x3).setCell ⟨g, 4, none⟩ x4).setCell ⟨g, 5, none⟩ x5).setCell ⟨g, 6, none⟩ x6).setCell ⟨g, 7, none⟩ x7).setCell ⟨g, 8, none⟩ x8).setCell ⟨g, 9, none⟩ x9).setCell ⟨g, 10, none⟩ x10).setCell ⟨g, 11, none⟩ x11)) g t #[x0, x1, x2, x3, x4, x5, x6, x7, x8, x9, x10, x11] := by
  obtain ⟨l⟩ := cs
  match l, hs, h with
  | [_, _, _, _, _, _, _, _, _, _, _, _], _, h =>
    have h' := ((((((((((((h.set_ 0 x0).set_ 1 x1).set_ 2 x2).set_ 3 x3).set_ 4 x4).set_ 5 x5).set_ 6 x6).set_ 7 x7).set_ 8 x8).set_ 9 x9).set_ 10 x10).set_ 11 x11)
    simp only [List.setIfInBounds_toArray, List.set_cons_succ, List.set_cons_zero] at h'
    exact h'
theorem below_row12 {B : Nat} {w0 w : World} (h : Below B w0 w) {g : Nat} (hp : B ≤ g) (x0 x1 x2 x3 x4 x5 x6 x7 x8 x9 x10 x11 : Value) : Below B w0 (((((((((((((w.setCell ⟨g, 0, none⟩ x0).setCell ⟨g, 1, none⟩ x1).setCell ⟨g, 2, none⟩ x2).setCell ⟨g, 3, none⟩ x3).setCell ⟨g, 4, none⟩ x4).setCell ⟨g, 5, none⟩ x5).setCell ⟨g, 6, none⟩ x6).setCell ⟨g, 7, none⟩ x7).setCell ⟨g, 8, none⟩ x8).setCell ⟨g, 9, none⟩ x9).setCell ⟨g, 10, none⟩ x10).setCell ⟨g, 11, none⟩ x11)) :=
  ((((((((((((h.setCell (p := ⟨g, 0, none⟩) hp x0).setCell (p := ⟨g, 1, none⟩) hp x1).setCell (p := ⟨g, 2, none⟩) hp x2).setCell (p := ⟨g, 3, none⟩) hp x3).setCell (p := ⟨g, 4, none⟩) hp x4).setCell (p := ⟨g, 5, none⟩) hp x5).setCell (p := ⟨g, 6, none⟩) hp x6).setCell (p := ⟨g, 7, none⟩) hp x7).setCell (p := ⟨g, 8, none⟩) hp x8).setCell (p := ⟨g, 9, none⟩) hp x9).setCell (p := ⟨g, 10, none⟩) hp x10).setCell (p := ⟨g, 11, none⟩) hp x11)
theorem cells4_size (us : List V3) : (cells4 us).size = 12 := rfl
/-- The parts of a small vector. -/
def SmV (v : V3) : Prop := (-100 ≤ v.1 ∧ v.1 ≤ 299) ∧ (-100 ≤ v.2.1 ∧ v.2.1 ≤ 299) ∧ (-100 ≤ v.2.2 ∧ v.2.2 ≤ 299)
end Go.Proofs.Ytadjnmldgnaabaa
