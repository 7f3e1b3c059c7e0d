/- IsIdentifier: the program's function and the reference's give the same answer, for all strings. No condition. -/
import Derived.Test.YtcmkmioojmeafaaBase
import Derived.Test.YtcmkmioojmeafaaIdent
namespace Go.Proofs.Ytcmkmioojmeafaa
open Go.ChangeShapes Go.WideShapes Go.ChangeAt Go.RowKit
open Go.ChangeMaps (open_string)

set_option maxHeartbeats 400000 in
theorem lawIsIdentifier (s : ByteArray) (hs : s.size ≤ maxLen) (w : World) :
    Calls Try.prog 5 #[.string s] w fun e w' => e = .returned (.bool true) ∧ Below w.heap.size w w' := by
  have hs' := hs
  unfold maxLen at hs'
  by_cases hbig : 1048576 < (s.size : Int)
  · go_enter Try.func5, Try.ntmps5
    go_wp2
    go_ret
    exact ⟨rfl, Below.refl _ _⟩
  · go_enter Try.func5, Try.ntmps5
    go_wp2_with fail
    refine (isIdS s _ hs).mono ?_
    rintro e w1 ⟨b1, rfl, hi1, hb1⟩
    go_wp2_with fail
    refine (isIdI s _ hs).mono ?_
    rintro e w2 ⟨b2, rfl, hi2, hb2⟩
    obtain rfl : b1 = b2 := by
      rw [Bool.eq_iff_iff, hi1, hi2]
    clear hi1 hi2
    cases b1
    all_goals
      go_wp2
      go_ret
      exact ⟨rfl, hb1.trans (hb2.mono hb1.size)⟩

theorem FnExactIsIdentifier_run {H : Type} {enc : TypeId × Value → H} (W : World) (base : Nat) (args : Array Value) (ds : List (DataW H)) (p : List MemPlace)
    (hl : args.toList.length = Try.f5.params.toList.length)
    (hval : ∀ (j : Nat) t v, Try.f5.params[j]? = some t → args[j]? = some v → Value.okWide Try.prog W .any base t v)
    (hA : DataW.TrodAll enc Try.prog W 0 (fun _ => true) true Try.f5.params.toList args.toList ds p) :
    Calls Try.prog 5 args W fun e w' => e = .returned (.bool true) ∧ Below W.heap.size W w' := by
  rw [Try.params5] at hl hval hA
  obtain ⟨v0, d0, rfl, rfl, h0⟩ := trodAll_one hA
  obtain ⟨s, rfl, rfl, rfl, hs⟩ := open_string Try.underlying9 (hval 0 9 v0 rfl rfl) h0
  exact lawIsIdentifier s hs W

set_option maxRecDepth 100000 in
theorem FnExactIsIdentifier_lifted (os : Os) (started : os.Started) (H : Type) (enc : TypeId × Value → H) :
    ReturnsInHanded {} Try.checked os 5 .any (Rows.fnExactIsIdentifierSpec.pre6 enc Try.prog Try.f5 Rows.fnExactIsIdentifierRow.domain false) (Rows.fnExactIsIdentifierSpec.post enc Try.prog Try.f5 false true false false) := by
  refine returnsInHanded_of_change (C := Try.checked) own started (by kernel_rfl) Try.func5
    (ChangeSpec.witness6 (enc := enc) (C := Try.checked) false ⟨#[], #[.string ByteArray.empty], []⟩ 8 (by kernel_rfl) (by kernel_rfl) (by kernel_rfl) (by kernel_rfl)) ?_
  intro W base args ds gs before hval hW _ _
  exact Fr.contract (P := Try.prog) (tb := 4) laidOut (by kernel_rfl) rfl rfl (by kernel_rfl) (fun ds hl => by match ds, hl with | [_], _ => rfl) FnExactIsIdentifier_run W base args ds gs before hval hW

theorem FnExactIsIdentifier_holds : Rows.FnExactIsIdentifierSaid :=
  OpenClaim.holds_of_wide 5 Try.f5 rfl rfl rfl rfl rfl rfl rfl ⟨rfl, rfl, rfl, rfl, rfl⟩ rfl rfl rfl rfl rfl (by kernel_rfl) Try.func5 (by kernel_rfl)
    (of_decide_eq_true (by kernel_rfl)) (by unfold Func.isWrapper; first | (rw [if_pos (by decide +kernel)]; kernel_rfl) | (rw [if_neg (by decide +kernel)]; exact ⟨rfl, rfl⟩))
    (fun os started H enc _ => FnExactIsIdentifier_lifted os started H enc)
#print axioms FnExactIsIdentifier_holds
end Go.Proofs.Ytcmkmioojmeafaa
