/- QuarterTurn: the program's function and the reference's give the same transform, for all ints. No condition. -/
import Derived.Test.YtobfccoljijnkaaOpen
import Derived.Test.YtobfccoljijnkaaQuartS
import Derived.Test.YtobfccoljijnkaaQuartI
namespace Go.Proofs.Ytobfccoljijnkaa
open Go.ChangeShapes Go.WideShapes Go.ChangeAt Go.RowKit

set_option maxHeartbeats 2000000 in
theorem lawQuarterTurn (a b : Int) (h1 : -9223372036854775808 ≤ b) (h2 : b ≤ 9223372036854775807) (w : World) : Calls Try.prog 8 #[.int .i64 a, .int .i64 b] w fun e w' => e = .returned (.bool true) ∧ Below w.heap.size w w' := by
  have hB : Below w.heap.size w w := Below.refl _ _
  go_enter Try.func8, Try.ntmps8
  go_wp2_with fail
  refine (quartS _ _ h1 h2 _).mono ?_
  rintro e w1 ⟨rfl, hb⟩
  have hB := (by with_reducible first | exact b_keep hb hB | exact b_keep hb hB.drew)
  clear hb
  go_wp2_with fail
  have g0 := hB.size
  have b0 := Blk.new w1 56 #[.int .i64 (qt a b 0), .int .i64 (qt a b 1), .int .i64 (qt a b 2), .int .i64 (qt a b 3), .int .i64 (qt a b 4), .int .i64 (qt a b 5), .int .i64 (qt a b 6), .int .i64 (qt a b 7), .int .i64 (qt a b 8), .int .i64 (0), .int .i64 (0), .int .i64 (0)]
  replace hB := hB.alloc hB.size (.cells #[.int .i64 (qt a b 0), .int .i64 (qt a b 1), .int .i64 (qt a b 2), .int .i64 (qt a b 3), .int .i64 (qt a b 4), .int .i64 (qt a b 5), .int .i64 (qt a b 6), .int .i64 (qt a b 7), .int .i64 (qt a b 8), .int .i64 (0), .int .i64 (0), .int .i64 (0)] 56)
  generalize w1.heap.size = q0 at b0 g0  ⊢
  generalize w1.alloc (.cells #[.int .i64 (qt a b 0), .int .i64 (qt a b 1), .int .i64 (qt a b 2), .int .i64 (qt a b 3), .int .i64 (qt a b 4), .int .i64 (qt a b 5), .int .i64 (qt a b 6), .int .i64 (qt a b 7), .int .i64 (qt a b 8), .int .i64 (0), .int .i64 (0), .int .i64 (0)] 56) = W0 at hB b0 ⊢
  have c0 := b0.cell
  have f0 := b0.frozen
  have l0 := b0.lt
  refine (quartI _ _ h1 h2 _).mono ?_
  rintro e w1 ⟨rfl, hb⟩
  have hB := (by with_reducible first | exact b_keep hb hB | exact b_keep hb hB.drew)
  replace b0 : Blk w1 _ _ _ := (by with_reducible first | exact Blk.keep hb b0 | exact Blk.keep hb b0.drew)
  replace l0 := b0.lt
  replace c0 := b0.cell
  replace f0 := b0.frozen
  clear hb
  go_wp2_with fail
  have d1_0 := b0.lt
  have g1 := hB.size
  replace b0 := b0.alloc (.cells #[.int .i64 (qt a b 0), .int .i64 (qt a b 1), .int .i64 (qt a b 2), .int .i64 (qt a b 3), .int .i64 (qt a b 4), .int .i64 (qt a b 5), .int .i64 (qt a b 6), .int .i64 (qt a b 7), .int .i64 (qt a b 8), .int .i64 (0), .int .i64 (0), .int .i64 (0)] 56)
  have b1 := Blk.new w1 56 #[.int .i64 (qt a b 0), .int .i64 (qt a b 1), .int .i64 (qt a b 2), .int .i64 (qt a b 3), .int .i64 (qt a b 4), .int .i64 (qt a b 5), .int .i64 (qt a b 6), .int .i64 (qt a b 7), .int .i64 (qt a b 8), .int .i64 (0), .int .i64 (0), .int .i64 (0)]
  replace hB := hB.alloc hB.size (.cells #[.int .i64 (qt a b 0), .int .i64 (qt a b 1), .int .i64 (qt a b 2), .int .i64 (qt a b 3), .int .i64 (qt a b 4), .int .i64 (qt a b 5), .int .i64 (qt a b 6), .int .i64 (qt a b 7), .int .i64 (qt a b 8), .int .i64 (0), .int .i64 (0), .int .i64 (0)] 56)
  clear c0 f0 l0
  generalize w1.heap.size = q1 at b1 g1 d1_0 ⊢
  generalize w1.alloc (.cells #[.int .i64 (qt a b 0), .int .i64 (qt a b 1), .int .i64 (qt a b 2), .int .i64 (qt a b 3), .int .i64 (qt a b 4), .int .i64 (qt a b 5), .int .i64 (qt a b 6), .int .i64 (qt a b 7), .int .i64 (qt a b 8), .int .i64 (0), .int .i64 (0), .int .i64 (0)] 56) = W1 at hB b0 b1 ⊢
  have c0 := b0.cell
  have f0 := b0.frozen
  have l0 := b0.lt
  have c1 := b1.cell
  have f1 := b1.frozen
  have l1 := b1.lt
  refine (eqTransform_same _ _ _ _ _ _ _ _ _ _ _ _ _).mono ?_
  rintro e w1 ⟨rfl, hb⟩
  have hB := (by with_reducible first | exact b_keep hb hB | exact b_keep hb hB.drew)
  replace b0 : Blk w1 _ _ _ := (by with_reducible first | exact Blk.keep hb b0 | exact Blk.keep hb b0.drew)
  replace b1 : Blk w1 _ _ _ := (by with_reducible first | exact Blk.keep hb b1 | exact Blk.keep hb b1.drew)
  replace l0 := b0.lt
  replace l1 := b1.lt
  replace c0 := b0.cell
  replace c1 := b1.cell
  replace f0 := b0.frozen
  replace f1 := b1.frozen
  clear hb
  go_wp2
  go_ret
  exact ⟨rfl, hB⟩

set_option maxRecDepth 100000 in
theorem FnExactQuarterTurn_run {H : Type} {enc : TypeId × Value → H} (W : World) (base : Nat) (args : Array Value) (ds : List (DataW H)) (p : List MemPlace)
    (hl : args.toList.length = Try.f8.params.toList.length)
    (hval : ∀ (j : Nat) t v, Try.f8.params[j]? = some t → args[j]? = some v → Value.okWide Try.prog W .any base t v)
    (_ : DataW.TrodAll enc Try.prog W 0 (fun _ => true) true Try.f8.params.toList args.toList ds p) :
    Calls Try.prog 8 args W fun e w' => e = .returned (.bool true) ∧ Below W.heap.size W w' := by
  rw [Try.params8] at hl hval
  obtain ⟨v0, v1, rfl⟩ := Fr.arr2 hl
  obtain ⟨a, rfl, _, _⟩ := Fr.open_one_int Try.underlying3 (hval 0 3 v0 rfl rfl)
  obtain ⟨b, rfl, h1, h2⟩ := Fr.open_one_int Try.underlying3 (hval 1 3 v1 rfl rfl)
  exact lawQuarterTurn a b h1 h2 W

set_option maxRecDepth 100000 in
theorem FnExactQuarterTurn_lifted (os : Os) (started : os.Started) (H : Type) (enc : TypeId × Value → H) :
    ReturnsInHanded {} Try.checked os 8 .any (Rows.fnExactQuarterTurnSpec.pre6 enc Try.prog Try.f8 Rows.fnExactQuarterTurnRow.domain false) (Rows.fnExactQuarterTurnSpec.post enc Try.prog Try.f8 false true false false) := by
  refine returnsInHanded_of_change (C := Try.checked) own started (by kernel_rfl) Try.func8
    (ChangeSpec.witness6 (enc := enc) (C := Try.checked) false ⟨#[], #[.int .i64 0, .int .i64 0], []⟩ 8 (by kernel_rfl) (by kernel_rfl) (by kernel_rfl) (by kernel_rfl)) ?_
  intro W base args ds gs before hval hW _ _
  exact Fr.contract (P := Try.prog) (tb := 4) laidOut (by kernel_rfl) rfl rfl (by kernel_rfl) (fun ds hl => by match ds, hl with | [_, _], _ => rfl) FnExactQuarterTurn_run W base args ds gs before hval hW

theorem FnExactQuarterTurn_holds : Rows.FnExactQuarterTurnSaid :=
  OpenClaim.holds_of_wide 8 Try.f8 rfl rfl rfl rfl rfl rfl rfl ⟨rfl, rfl, rfl, rfl, rfl⟩ rfl rfl rfl rfl rfl (by kernel_rfl) Try.func8 (by kernel_rfl)
    (of_decide_eq_true (by kernel_rfl)) (by unfold Func.isWrapper; first | (rw [if_pos (by decide +kernel)]; kernel_rfl) | (rw [if_neg (by decide +kernel)]; exact ⟨rfl, rfl⟩))
    (fun os started H enc _ => FnExactQuarterTurn_lifted os started H enc)
#print axioms FnExactQuarterTurn_holds
end Go.Proofs.Ytobfccoljijnkaa
