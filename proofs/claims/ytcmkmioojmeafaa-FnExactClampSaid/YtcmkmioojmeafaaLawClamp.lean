/- Clamp: the program's function and the reference's give the same limited number, for all three ints. No condition. -/
import Derived.Test.YtcmkmioojmeafaaBase
import Derived.Test.YtcmkmioojmeafaaNum
namespace Go.Proofs.Ytcmkmioojmeafaa
open Go.ChangeShapes Go.WideShapes Go.ChangeAt Go.RowKit

set_option maxHeartbeats 400000 in
theorem lawClamp (n lo hi : Int) (w : World) :
    Calls Try.prog 4 #[.int .i64 n, .int .i64 lo, .int .i64 hi] w fun e w' => e = .returned (.bool true) ∧ Below w.heap.size w w' := by
  go_enter Try.func4, Try.ntmps4
  go_wp2_with fail
  refine (clampS n lo hi _).mono ?_
  rintro e w' ⟨rfl, rfl⟩
  go_wp2_with fail
  refine (clampI n lo hi _).mono ?_
  rintro e w' ⟨rfl, rfl⟩
  go_wp2
  go_ret
  exact ⟨rfl, Below.refl _ _⟩

theorem FnExactClamp_run {H : Type} {enc : TypeId × Value → H} (W : World) (base : Nat) (args : Array Value) (ds : List (DataW H)) (p : List MemPlace)
    (hl : args.toList.length = Try.f4.params.toList.length)
    (hval : ∀ (j : Nat) t v, Try.f4.params[j]? = some t → args[j]? = some v → Value.okWide Try.prog W .any base t v)
    (_ : DataW.TrodAll enc Try.prog W 0 (fun _ => true) true Try.f4.params.toList args.toList ds p) :
    Calls Try.prog 4 args W fun e w' => e = .returned (.bool true) ∧ Below W.heap.size W w' := by
  rw [Try.params4] at hl hval
  obtain ⟨v0, v1, v2, rfl⟩ := Fr.arr3 hl
  obtain ⟨a, rfl, _, _⟩ := Fr.open_one_int Try.underlying3 (hval 0 3 v0 rfl rfl)
  obtain ⟨b, rfl, _, _⟩ := Fr.open_one_int Try.underlying3 (hval 1 3 v1 rfl rfl)
  obtain ⟨c, rfl, _, _⟩ := Fr.open_one_int Try.underlying3 (hval 2 3 v2 rfl rfl)
  exact lawClamp a b c W

set_option maxRecDepth 100000 in
theorem FnExactClamp_lifted (os : Os) (started : os.Started) (H : Type) (enc : TypeId × Value → H) :
    ReturnsInHanded {} Try.checked os 4 .any (Rows.fnExactClampSpec.pre6 enc Try.prog Try.f4 Rows.fnExactClampRow.domain false) (Rows.fnExactClampSpec.post enc Try.prog Try.f4 false true false false) := by
  refine returnsInHanded_of_change (C := Try.checked) own started (by kernel_rfl) Try.func4
    (ChangeSpec.witness6 (enc := enc) (C := Try.checked) false ⟨#[], #[.int .i64 0, .int .i64 0, .int .i64 0], []⟩ 8 (by kernel_rfl) (by kernel_rfl) (by kernel_rfl) (by kernel_rfl)) ?_
  intro W base args ds gs before hval hW _ _
  exact Fr.contract (P := Try.prog) (tb := 4) laidOut (by kernel_rfl) rfl rfl (by kernel_rfl) (fun ds hl => by match ds, hl with | [_, _, _], _ => rfl) FnExactClamp_run W base args ds gs before hval hW

theorem FnExactClamp_holds : Rows.FnExactClampSaid :=
  OpenClaim.holds_of_wide 4 Try.f4 rfl rfl rfl rfl rfl rfl rfl ⟨rfl, rfl, rfl, rfl, rfl⟩ rfl rfl rfl rfl rfl (by kernel_rfl) Try.func4 (by kernel_rfl)
    (of_decide_eq_true (by kernel_rfl)) (by unfold Func.isWrapper; first | (rw [if_pos (by decide +kernel)]; kernel_rfl) | (rw [if_neg (by decide +kernel)]; exact ⟨rfl, rfl⟩))
    (fun os started H enc _ => FnExactClamp_lifted os started H enc)
#print axioms FnExactClamp_holds
end Go.Proofs.Ytcmkmioojmeafaa
