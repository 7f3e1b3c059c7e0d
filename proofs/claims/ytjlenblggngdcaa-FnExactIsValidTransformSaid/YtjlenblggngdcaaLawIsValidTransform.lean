/- IsValidTransform: the program's function and the reference's give the same result, for all arguments. No condition. -/
import Derived.Test.YtjlenblggngdcaaOpen
import Derived.Deep.DeepCutAuto
import Derived.Test.YtjlenblggngdcaaValT
namespace Go.Proofs.Ytjlenblggngdcaa
open Go.ChangeShapes Go.WideShapes Go.ChangeAt Go.RowKit

set_option maxHeartbeats 2000000 in
theorem lawIsValidTransform (pa pb pc pd pe pf pg ph pi pj pk pl : Int) (w : World) :
    Calls Try.prog 8 #[.agg #[.int .i64 (pa), .int .i64 (pb), .int .i64 (pc), .int .i64 (pd), .int .i64 (pe), .int .i64 (pf), .int .i64 (pg), .int .i64 (ph), .int .i64 (pi), .int .i64 (pj), .int .i64 (pk), .int .i64 (pl)]] w fun e w' => e = .returned (.bool true) ∧ Below w.heap.size w w' := by
  have hB := below1 w (.cells #[.int .i64 (pa), .int .i64 (pb), .int .i64 (pc), .int .i64 (pd), .int .i64 (pe), .int .i64 (pf), .int .i64 (pg), .int .i64 (ph), .int .i64 (pi), .int .i64 (pj), .int .i64 (pk), .int .i64 (pl)] 45)
  have b0 := Blk.new w 45 #[.int .i64 (pa), .int .i64 (pb), .int .i64 (pc), .int .i64 (pd), .int .i64 (pe), .int .i64 (pf), .int .i64 (pg), .int .i64 (ph), .int .i64 (pi), .int .i64 (pj), .int .i64 (pk), .int .i64 (pl)]
  go_enter Try.func8, Try.ntmps8
  go_wp2_with fail
  generalize w.alloc (.cells #[.int .i64 (pa), .int .i64 (pb), .int .i64 (pc), .int .i64 (pd), .int .i64 (pe), .int .i64 (pf), .int .i64 (pg), .int .i64 (ph), .int .i64 (pi), .int .i64 (pj), .int .i64 (pk), .int .i64 (pl)] 45) = W0 at hB b0 ⊢
  have c0 := b0.cell
  have f0 := b0.frozen
  have l0 := b0.lt
  refine (toTransform_any pa pb pc pd pe pf pg ph pi pj pk pl _).mono ?_
  rintro e w1 ⟨rfl, hb⟩
  have hB := (by with_reducible first | exact b_keep hb hB | exact b_keep hb hB.drew)
  replace b0 : Blk w1 _ _ _ := (by with_reducible first | exact Blk.keep hb b0 | exact Blk.keep hb b0.drew)
  replace l0 := b0.lt
  replace c0 := b0.cell
  replace f0 := b0.frozen
  clear hb
  go_wp2_with fail
  refine (isValidTransformS pa pb pc pd pe pf pg ph pi pj pk pl _).mono ?_
  rintro e w1 ⟨rfl, hb⟩
  have hB := (by with_reducible first | exact b_keep hb hB | exact b_keep hb hB.drew)
  replace b0 : Blk w1 _ _ _ := (by with_reducible first | exact Blk.keep hb b0 | exact Blk.keep hb b0.drew)
  replace l0 := b0.lt
  replace c0 := b0.cell
  replace f0 := b0.frozen
  clear hb
  go_wp2_with fail
  refine (toTransform_any pa pb pc pd pe pf pg ph pi pj pk pl _).mono ?_
  rintro e w1 ⟨rfl, hb⟩
  have hB := (by with_reducible first | exact b_keep hb hB | exact b_keep hb hB.drew)
  replace b0 : Blk w1 _ _ _ := (by with_reducible first | exact Blk.keep hb b0 | exact Blk.keep hb b0.drew)
  replace l0 := b0.lt
  replace c0 := b0.cell
  replace f0 := b0.frozen
  clear hb
  go_wp2_with fail
  refine (isValidTransformI pa pb pc pd pe pf pg ph pi pj pk pl _).mono ?_
  rintro e w1 ⟨rfl, hb⟩
  have hB := (by with_reducible first | exact b_keep hb hB | exact b_keep hb hB.drew)
  replace b0 : Blk w1 _ _ _ := (by with_reducible first | exact Blk.keep hb b0 | exact Blk.keep hb b0.drew)
  replace l0 := b0.lt
  replace c0 := b0.cell
  replace f0 := b0.frozen
  clear hb
  clear b0 c0 f0 l0
  cases vbT pa pb pc pd pe pf pg ph pi pj pk pl
  all_goals
    go_wp2
    go_ret
    exact ⟨rfl, hB⟩

theorem FnExactIsValidTransform_run {H : Type} {enc : TypeId × Value → H} (W : World) (base : Nat) (args : Array Value) (ds : List (DataW H)) (p : List MemPlace)
    (hl : args.toList.length = Try.f8.params.toList.length)
    (hval : ∀ (j : Nat) t v, Try.f8.params[j]? = some t → args[j]? = some v → Value.okWide Try.prog W .any base t v)
    (_ : DataW.TrodAll enc Try.prog W 0 (fun _ => true) true Try.f8.params.toList args.toList ds p) :
    Calls Try.prog 8 args W fun e w' => e = .returned (.bool true) ∧ Below W.heap.size W w' := by
  rw [Try.params8] at hl hval
  obtain ⟨v0, rfl⟩ := Fr.arr1 hl
  obtain ⟨pa, pb, pc, pd, pe, pf, pg, ph, pi, pj, pk, pl, rfl⟩ := open_transform (hval 0 45 v0 rfl rfl)
  exact lawIsValidTransform pa pb pc pd pe pf pg ph pi pj pk pl W

set_option maxRecDepth 100000 in
theorem FnExactIsValidTransform_lifted (os : Os) (started : os.Started) (H : Type) (enc : TypeId × Value → H) :
    ReturnsInHanded {} Try.checked os 8 .any (Rows.fnExactIsValidTransformSpec.pre6 enc Try.prog Try.f8 Rows.fnExactIsValidTransformRow.domain false) (Rows.fnExactIsValidTransformSpec.post enc Try.prog Try.f8 false true false false) := by
  refine returnsInHanded_of_change (C := Try.checked) own started (by kernel_rfl) Try.func8
    (ChangeSpec.witness6 (enc := enc) (C := Try.checked) false ⟨#[], #[.agg #[.int .i64 (0), .int .i64 (0), .int .i64 (0), .int .i64 (0), .int .i64 (0), .int .i64 (0), .int .i64 (0), .int .i64 (0), .int .i64 (0), .int .i64 (0), .int .i64 (0), .int .i64 (0)]], []⟩ 8 (by kernel_rfl) (by kernel_rfl) (by kernel_rfl) (by kernel_rfl)) ?_
  intro W base args ds gs before hval hW _ _
  exact Fr.contract (P := Try.prog) (tb := 4) laidOut (by kernel_rfl) rfl rfl (by kernel_rfl) (fun ds hl => by match ds, hl with | [_], _ => rfl) FnExactIsValidTransform_run W base args ds gs before hval hW

theorem FnExactIsValidTransform_holds : Rows.FnExactIsValidTransformSaid :=
  OpenClaim.holds_of_wide 8 Try.f8 rfl rfl rfl rfl rfl rfl rfl ⟨rfl, rfl, rfl, rfl, rfl⟩ rfl rfl rfl rfl rfl (by kernel_rfl) Try.func8 (by kernel_rfl)
    (of_decide_eq_true (by kernel_rfl)) (by unfold Func.isWrapper; first | (rw [if_pos (by decide +kernel)]; kernel_rfl) | (rw [if_neg (by decide +kernel)]; exact ⟨rfl, rfl⟩))
    (fun os started H enc _ => FnExactIsValidTransform_lifted os started H enc)
#print axioms FnExactIsValidTransform_holds
end Go.Proofs.Ytjlenblggngdcaa
