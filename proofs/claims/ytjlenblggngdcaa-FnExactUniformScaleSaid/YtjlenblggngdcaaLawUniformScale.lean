/- UniformScale: the program's function and the reference's give the same transform, for all ints. No condition. -/
import Derived.Test.YtjlenblggngdcaaOpen
import Derived.Test.YtjlenblggngdcaaTrans
namespace Go.Proofs.Ytjlenblggngdcaa
open Go.ChangeShapes Go.WideShapes Go.ChangeAt Go.RowKit

set_option maxHeartbeats 2000000 in
theorem lawUniformScale (i : Int) (w : World) : Calls Try.prog 4 #[.int .i64 i] w fun e w' => e = .returned (.bool true) ∧ Below w.heap.size w w' := by
  have hB : Below w.heap.size w w := Below.refl _ _
  go_enter Try.func4, Try.ntmps4
  go_wp2_with fail
  refine (uniformS _ _).mono ?_
  rintro e w1 ⟨rfl, hb⟩
  have hB := (by with_reducible first | exact b_keep hb hB | exact b_keep hb hB.drew)
  clear hb
  go_wp2_with fail
  have g0 := hB.size
  have b0 := Blk.new w1 31 #[.int .i64 (usD i), .int .i64 (0), .int .i64 (0), .int .i64 (0), .int .i64 (usD i), .int .i64 (0), .int .i64 (0), .int .i64 (0), .int .i64 (usD i), .int .i64 (0), .int .i64 (0), .int .i64 (0)]
  replace hB := hB.alloc hB.size (.cells #[.int .i64 (usD i), .int .i64 (0), .int .i64 (0), .int .i64 (0), .int .i64 (usD i), .int .i64 (0), .int .i64 (0), .int .i64 (0), .int .i64 (usD i), .int .i64 (0), .int .i64 (0), .int .i64 (0)] 31)
  generalize w1.heap.size = q0 at b0 g0  ⊢
  generalize w1.alloc (.cells #[.int .i64 (usD i), .int .i64 (0), .int .i64 (0), .int .i64 (0), .int .i64 (usD i), .int .i64 (0), .int .i64 (0), .int .i64 (0), .int .i64 (usD i), .int .i64 (0), .int .i64 (0), .int .i64 (0)] 31) = W0 at hB b0 ⊢
  have c0 := b0.cell
  have f0 := b0.frozen
  have l0 := b0.lt
  refine (uniformI _ _).mono ?_
  rintro e w1 ⟨rfl, hb⟩
  have hB := (by with_reducible first | exact b_keep hb hB | exact b_keep hb hB.drew)
  replace b0 : Blk w1 _ _ _ := (by with_reducible first | exact Blk.keep hb b0 | exact Blk.keep hb b0.drew)
  replace l0 := b0.lt
  replace c0 := b0.cell
  replace f0 := b0.frozen
  clear hb
  go_wp2_with fail
  have d1_0 := b0.lt
  have g1 := hB.size
  replace b0 := b0.alloc (.cells #[.int .i64 (usD i), .int .i64 (0), .int .i64 (0), .int .i64 (0), .int .i64 (usD i), .int .i64 (0), .int .i64 (0), .int .i64 (0), .int .i64 (usD i), .int .i64 (0), .int .i64 (0), .int .i64 (0)] 31)
  have b1 := Blk.new w1 31 #[.int .i64 (usD i), .int .i64 (0), .int .i64 (0), .int .i64 (0), .int .i64 (usD i), .int .i64 (0), .int .i64 (0), .int .i64 (0), .int .i64 (usD i), .int .i64 (0), .int .i64 (0), .int .i64 (0)]
  replace hB := hB.alloc hB.size (.cells #[.int .i64 (usD i), .int .i64 (0), .int .i64 (0), .int .i64 (0), .int .i64 (usD i), .int .i64 (0), .int .i64 (0), .int .i64 (0), .int .i64 (usD i), .int .i64 (0), .int .i64 (0), .int .i64 (0)] 31)
  clear c0 f0 l0
  generalize w1.heap.size = q1 at b1 g1 d1_0 ⊢
  generalize w1.alloc (.cells #[.int .i64 (usD i), .int .i64 (0), .int .i64 (0), .int .i64 (0), .int .i64 (usD i), .int .i64 (0), .int .i64 (0), .int .i64 (0), .int .i64 (usD i), .int .i64 (0), .int .i64 (0), .int .i64 (0)] 31) = W1 at hB b0 b1 ⊢
  have c0 := b0.cell
  have f0 := b0.frozen
  have l0 := b0.lt
  have c1 := b1.cell
  have f1 := b1.frozen
  have l1 := b1.lt
  refine (eqTransform_same _ _ _ _ _ _ _ _ _ _ _ _ _).mono ?_
  rintro e w1 ⟨rfl, hb⟩
  have hB := (by with_reducible first | exact b_keep hb hB | exact b_keep hb hB.drew)
  replace b0 : Blk w1 _ _ _ := (by with_reducible first | exact Blk.keep hb b0 | exact Blk.keep hb b0.drew)
  replace b1 : Blk w1 _ _ _ := (by with_reducible first | exact Blk.keep hb b1 | exact Blk.keep hb b1.drew)
  replace l0 := b0.lt
  replace l1 := b1.lt
  replace c0 := b0.cell
  replace c1 := b1.cell
  replace f0 := b0.frozen
  replace f1 := b1.frozen
  clear hb
  go_wp2
  go_ret
  exact ⟨rfl, hB⟩

theorem FnExactUniformScale_run {H : Type} {enc : TypeId × Value → H} (W : World) (base : Nat) (args : Array Value) (ds : List (DataW H)) (p : List MemPlace)
    (hl : args.toList.length = Try.f4.params.toList.length)
    (hval : ∀ (j : Nat) t v, Try.f4.params[j]? = some t → args[j]? = some v → Value.okWide Try.prog W .any base t v)
    (_ : DataW.TrodAll enc Try.prog W 0 (fun _ => true) true Try.f4.params.toList args.toList ds p) :
    Calls Try.prog 4 args W fun e w' => e = .returned (.bool true) ∧ Below W.heap.size W w' := by
  rw [Try.params4] at hl hval
  obtain ⟨v0, rfl⟩ := Fr.arr1 hl
  obtain ⟨a, rfl, _, _⟩ := Fr.open_one_int Try.underlying3 (hval 0 3 v0 rfl rfl)
  exact lawUniformScale a W

set_option maxRecDepth 100000 in
theorem FnExactUniformScale_lifted (os : Os) (started : os.Started) (H : Type) (enc : TypeId × Value → H) :
    ReturnsInHanded {} Try.checked os 4 .any (Rows.fnExactUniformScaleSpec.pre6 enc Try.prog Try.f4 Rows.fnExactUniformScaleRow.domain false) (Rows.fnExactUniformScaleSpec.post enc Try.prog Try.f4 false true false false) := by
  refine returnsInHanded_of_change (C := Try.checked) own started (by kernel_rfl) Try.func4
    (ChangeSpec.witness6 (enc := enc) (C := Try.checked) false ⟨#[], #[.int .i64 0], []⟩ 8 (by kernel_rfl) (by kernel_rfl) (by kernel_rfl) (by kernel_rfl)) ?_
  intro W base args ds gs before hval hW _ _
  exact Fr.contract (P := Try.prog) (tb := 4) laidOut (by kernel_rfl) rfl rfl (by kernel_rfl) (fun ds hl => by match ds, hl with | [_], _ => rfl) FnExactUniformScale_run W base args ds gs before hval hW

theorem FnExactUniformScale_holds : Rows.FnExactUniformScaleSaid :=
  OpenClaim.holds_of_wide 4 Try.f4 rfl rfl rfl rfl rfl rfl rfl ⟨rfl, rfl, rfl, rfl, rfl⟩ rfl rfl rfl rfl rfl (by kernel_rfl) Try.func4 (by kernel_rfl)
    (of_decide_eq_true (by kernel_rfl)) (by unfold Func.isWrapper; first | (rw [if_pos (by decide +kernel)]; kernel_rfl) | (rw [if_neg (by decide +kernel)]; exact ⟨rfl, rfl⟩))
    (fun os started H enc _ => FnExactUniformScale_lifted os started H enc)
#print axioms FnExactUniformScale_holds
end Go.Proofs.Ytjlenblggngdcaa
