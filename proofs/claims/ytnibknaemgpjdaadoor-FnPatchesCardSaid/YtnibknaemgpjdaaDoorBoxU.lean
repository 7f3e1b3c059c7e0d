/- Contracts of UnionBox and ExpandBox, of the program and of the reference; the laws' comparison of boxes. -/
import Derived.Test.YtnibknaemgpjdaaDoorBox
import Derived.Test.YtnibknaemgpjdaaDoorVec5
import Derived.Test.YtnibknaemgpjdaaDoorVecS
import Derived.Deep.DeepCutAuto
namespace Go.Proofs.YtnibknaemgpjdaaDoor
open Go.RowKit

theorem Blk.set6 {w : World} {g : Nat} {t : TypeId} {p q r p' q' r' : Value} (h : Blk w g t #[p, q, r, p', q', r']) (a b c d e f : Value) :
    Blk ((((((w.setCell ⟨g, 0, none⟩ a).setCell ⟨g, 1, none⟩ b).setCell ⟨g, 2, none⟩ c).setCell ⟨g, 3, none⟩ d).setCell ⟨g, 4, none⟩ e).setCell ⟨g, 5, none⟩ f) g t #[a, b, c, d, e, f] :=
  (((((h.set_ 0 a).set_ 1 b).set_ 2 c).set_ 3 d).set_ 4 e).set_ 5 f
theorem Blk.far6 {w : World} {g : Nat} {t : TypeId} {cs : Array Value} (h : Blk w g t cs) {g' : Nat} (hp : g ≠ g') (a b c d e f : Value) :
    Blk ((((((w.setCell ⟨g', 0, none⟩ a).setCell ⟨g', 1, none⟩ b).setCell ⟨g', 2, none⟩ c).setCell ⟨g', 3, none⟩ d).setCell ⟨g', 4, none⟩ e).setCell ⟨g', 5, none⟩ f) g t cs :=
  (((h.far3 hp a b c).far (p := ⟨g', 3, none⟩) hp d).far (p := ⟨g', 4, none⟩) hp e).far (p := ⟨g', 5, none⟩) hp f
theorem below_set6 {w : World} {B : Nat} {w0 : World} (h : Below B w0 w) {g' : Nat} (hp : B ≤ g') (a b c d e f : Value) :
    Below B w0 ((((((w.setCell ⟨g', 0, none⟩ a).setCell ⟨g', 1, none⟩ b).setCell ⟨g', 2, none⟩ c).setCell ⟨g', 3, none⟩ d).setCell ⟨g', 4, none⟩ e).setCell ⟨g', 5, none⟩ f) :=
  (((below_set3 h hp a b c).setCell (p := ⟨g', 3, none⟩) hp d).setCell (p := ⟨g', 4, none⟩) hp e).setCell (p := ⟨g', 5, none⟩) hp f
def exL (a k : Int) : Int := if inB k 0 1000000 then cl (cl a - cl k) else a
def exH (a k : Int) : Int := if inB k 0 1000000 then cl (cl a + cl k) else a
theorem exL_yes {k : Int} (h : inB k 0 1000000 = true) (a : Int) : exL a k = cl (cl a - cl k) := by unfold exL; rw [h]; rfl
theorem exH_yes {k : Int} (h : inB k 0 1000000 = true) (a : Int) : exH a k = cl (cl a + cl k) := by unfold exH; rw [h]; rfl
theorem exL_no {k : Int} (h : inB k 0 1000000 = false) (a : Int) : exL a k = a := by unfold exL; rw [h]; rfl
theorem exH_no {k : Int} (h : inB k 0 1000000 = false) (a : Int) : exH a k = a := by unfold exH; rw [h]; rfl
end Go.Proofs.YtnibknaemgpjdaaDoor
