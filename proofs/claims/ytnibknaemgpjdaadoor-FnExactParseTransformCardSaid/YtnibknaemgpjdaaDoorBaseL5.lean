/- What the five listed variables give the walks; and a world that meets the condition. -/
import Derived.Test.YtnibknaemgpjdaaDoorBaseL
import Derived.Test.YtnibknaemgpjdaaDoorParT
namespace Go.Proofs.YtnibknaemgpjdaaDoor
open Go Go.ChangeShapes Go.WideShapes Go.ChangeAt Go.RowKit

def laid5 : List (String × DataW Unit) := [("math/bits.deBruijn32tab", Rows.laid_math_bits_deBruijn32tab), ("math/bits.deBruijn64tab", Rows.laid_math_bits_deBruijn64tab), ("internal/strconv.uint64pow10", Rows.laid_internal_strconv_uint64pow10), ("strconv.ErrRange", Rows.laid_strconv_ErrRange), ("strconv.ErrSyntax", Rows.laid_strconv_ErrSyntax)]
theorem star : "*" ++ "errors.errorString" = "*errors.errorString" := by decide
theorem rowErr (u : TypeId) (h : Tryd.prog.typeName? 3 u = some "*errors.errorString") : u = 147 :=
  typeName_ptr_named (nm := "errors.errorString") (by rw [star]; kernel_rfl) (by kernel_rfl) (by decide) u (by rw [star]; exact h)
theorem gErrS : Tryd.prog.globalNamed "strconv.ErrSyntax" = some 1 := by kernel_rfl
theorem gErrR : Tryd.prog.globalNamed "strconv.ErrRange" = some 2 := by kernel_rfl
theorem tab_of5 {W : World} (h : laidMetH Tryd.prog laid5 W) : Tab W := by
  rw [MakeChecks.laidMetH_plain _ _ _ (by kernel_rfl)] at h
  unfold laid5 at h
  rw [pow_data] at h
  exact Lib.tabIs_of_head gTab (by kernel_rfl) Tryd.underlying151 Tryd.underlying130 (by kernel_rfl) (by kernel_rfl) (laidMet.tail (laidMet.tail h))
theorem errs_of5 {W : World} (h : laidMetH Tryd.prog laid5 W) : Errs W := by
  rw [MakeChecks.laidMetH_plain _ _ _ (by kernel_rfl)] at h
  unfold laid5 at h
  have h3 := laidMet.tail (laidMet.tail (laidMet.tail h))
  obtain ⟨a, _, h1, _⟩ := laid_sentinel h3 gErrR (by kernel_rfl) Tryd.underlying81 rowErr Tryd.underlying147 Tryd.underlying149 rfl rfl Tryd.underlying9 (by kernel_rfl) (by kernel_rfl)
  obtain ⟨b, _, h2, _⟩ := laid_sentinel (laidMet.tail h3) gErrS (by kernel_rfl) Tryd.underlying81 rowErr Tryd.underlying147 Tryd.underlying149 rfl rfl Tryd.underlying9 (by kernel_rfl) (by kernel_rfl)
  exact ⟨⟨_, _, h2⟩, _, _, h1⟩
set_option maxRecDepth 100000 in
theorem door5_met (os : Os) (args : Array Value) : laidMetH Tryd.prog laid5 ((World.doorLaid Tryd.prog 62 os).forCall (fun _ _ => 0) ⟨#[], args, []⟩).memory :=
  laidMetH_of_parts3 (fuel := 8) (laidMet_of_run' 8 (by kernel_rfl) (by kernel_rfl)) (by kernel_rfl) (by kernel_rfl)
end Go.Proofs.YtnibknaemgpjdaaDoor
