/- PatchBounds: the program's function and the reference's give the same box, for all patches. No condition. -/
import Derived.Test.YtobfccoljijnkaaOpen
import Derived.Test.YtobfccoljijnkaaToArr
import Derived.Test.YtobfccoljijnkaaPBnd
namespace Go.Proofs.Ytobfccoljijnkaa
open Go.ChangeShapes Go.WideShapes Go.ChangeAt Go.RowKit

set_option maxHeartbeats 4000000 in
theorem lawPatchBounds (p0 p1 p2 p3 p4 p5 p6 p7 p8 p9 p10 p11 : Int) (w : World) :
    Calls Try.prog 10 #[.agg #[.int .i64 (p0), .int .i64 (p1), .int .i64 (p2), .int .i64 (p3), .int .i64 (p4), .int .i64 (p5), .int .i64 (p6), .int .i64 (p7), .int .i64 (p8), .int .i64 (p9), .int .i64 (p10), .int .i64 (p11)]] w fun r w' => r = .returned (.bool true) ∧ Below w.heap.size w w' := by
  have hB := below1 w (.cells #[.int .i64 (p0), .int .i64 (p1), .int .i64 (p2), .int .i64 (p3), .int .i64 (p4), .int .i64 (p5), .int .i64 (p6), .int .i64 (p7), .int .i64 (p8), .int .i64 (p9), .int .i64 (p10), .int .i64 (p11)] 46)
  have b0 := Blk.new w 46 #[.int .i64 (p0), .int .i64 (p1), .int .i64 (p2), .int .i64 (p3), .int .i64 (p4), .int .i64 (p5), .int .i64 (p6), .int .i64 (p7), .int .i64 (p8), .int .i64 (p9), .int .i64 (p10), .int .i64 (p11)]
  go_enter Try.func10, Try.ntmps10
  go_wp2_with fail
  generalize w.alloc (.cells #[.int .i64 (p0), .int .i64 (p1), .int .i64 (p2), .int .i64 (p3), .int .i64 (p4), .int .i64 (p5), .int .i64 (p6), .int .i64 (p7), .int .i64 (p8), .int .i64 (p9), .int .i64 (p10), .int .i64 (p11)] 46) = W0 at hB b0 ⊢
  have c0 := b0.cell
  have f0 := b0.frozen
  have l0 := b0.lt
  refine (toPatch_any p0 p1 p2 p3 p4 p5 p6 p7 p8 p9 p10 p11 _).mono ?_
  rintro e w1 ⟨rfl, hb⟩
  have hB := (by with_reducible first | exact b_keep hb hB | exact b_keep hb hB.drew)
  replace b0 : Blk w1 _ _ _ := (by with_reducible first | exact Blk.keep hb b0 | exact Blk.keep hb b0.drew)
  replace l0 := b0.lt
  replace c0 := b0.cell
  replace f0 := b0.frozen
  clear hb
  go_wp2_with fail
  refine (patchBoundsS p0 p1 p2 p3 p4 p5 p6 p7 p8 p9 p10 p11 _).mono ?_
  rintro e w1 ⟨rfl, hb⟩
  have hB := (by with_reducible first | exact b_keep hb hB | exact b_keep hb hB.drew)
  replace b0 : Blk w1 _ _ _ := (by with_reducible first | exact Blk.keep hb b0 | exact Blk.keep hb b0.drew)
  replace l0 := b0.lt
  replace c0 := b0.cell
  replace f0 := b0.frozen
  clear hb
  go_wp2_with fail
  have d1_0 := b0.lt
  have g1 := hB.size
  replace b0 := b0.alloc (.cells #[.int .i64 (bpL (cx p0 p3 p6 p9) 4), .int .i64 (bpL (cx p1 p4 p7 p10) 4), .int .i64 (bpL (cx p2 p5 p8 p11) 4), .int .i64 (bpH (cx p0 p3 p6 p9) 4), .int .i64 (bpH (cx p1 p4 p7 p10) 4), .int .i64 (bpH (cx p2 p5 p8 p11) 4)] 28)
  have b1 := Blk.new w1 28 #[.int .i64 (bpL (cx p0 p3 p6 p9) 4), .int .i64 (bpL (cx p1 p4 p7 p10) 4), .int .i64 (bpL (cx p2 p5 p8 p11) 4), .int .i64 (bpH (cx p0 p3 p6 p9) 4), .int .i64 (bpH (cx p1 p4 p7 p10) 4), .int .i64 (bpH (cx p2 p5 p8 p11) 4)]
  replace hB := hB.alloc hB.size (.cells #[.int .i64 (bpL (cx p0 p3 p6 p9) 4), .int .i64 (bpL (cx p1 p4 p7 p10) 4), .int .i64 (bpL (cx p2 p5 p8 p11) 4), .int .i64 (bpH (cx p0 p3 p6 p9) 4), .int .i64 (bpH (cx p1 p4 p7 p10) 4), .int .i64 (bpH (cx p2 p5 p8 p11) 4)] 28)
  clear c0 f0 l0
  generalize w1.heap.size = q1 at b1 g1 d1_0 ⊢
  generalize w1.alloc (.cells #[.int .i64 (bpL (cx p0 p3 p6 p9) 4), .int .i64 (bpL (cx p1 p4 p7 p10) 4), .int .i64 (bpL (cx p2 p5 p8 p11) 4), .int .i64 (bpH (cx p0 p3 p6 p9) 4), .int .i64 (bpH (cx p1 p4 p7 p10) 4), .int .i64 (bpH (cx p2 p5 p8 p11) 4)] 28) = W1 at hB b0 b1 ⊢
  have c0 := b0.cell
  have f0 := b0.frozen
  have l0 := b0.lt
  have c1 := b1.cell
  have f1 := b1.frozen
  have l1 := b1.lt
  go_wp2_with fail
  refine (toPatch_any p0 p1 p2 p3 p4 p5 p6 p7 p8 p9 p10 p11 _).mono ?_
  rintro e w1 ⟨rfl, hb⟩
  have hB := (by with_reducible first | exact b_keep hb hB | exact b_keep hb hB.drew)
  replace b0 : Blk w1 _ _ _ := (by with_reducible first | exact Blk.keep hb b0 | exact Blk.keep hb b0.drew)
  replace b1 : Blk w1 _ _ _ := (by with_reducible first | exact Blk.keep hb b1 | exact Blk.keep hb b1.drew)
  replace l0 := b0.lt
  replace l1 := b1.lt
  replace c0 := b0.cell
  replace c1 := b1.cell
  replace f0 := b0.frozen
  replace f1 := b1.frozen
  clear hb
  go_wp2_with fail
  refine (patchBoundsI p0 p1 p2 p3 p4 p5 p6 p7 p8 p9 p10 p11 _).mono ?_
  rintro e w1 ⟨rfl, hb⟩
  have hB := (by with_reducible first | exact b_keep hb hB | exact b_keep hb hB.drew)
  replace b0 : Blk w1 _ _ _ := (by with_reducible first | exact Blk.keep hb b0 | exact Blk.keep hb b0.drew)
  replace b1 : Blk w1 _ _ _ := (by with_reducible first | exact Blk.keep hb b1 | exact Blk.keep hb b1.drew)
  replace l0 := b0.lt
  replace l1 := b1.lt
  replace c0 := b0.cell
  replace c1 := b1.cell
  replace f0 := b0.frozen
  replace f1 := b1.frozen
  clear hb
  go_wp2_with fail
  have d2_0 := b0.lt
  have d2_1 := b1.lt
  have g2 := hB.size
  replace b0 := b0.alloc (.cells #[.int .i64 (bpL (cx p0 p3 p6 p9) 4), .int .i64 (bpL (cx p1 p4 p7 p10) 4), .int .i64 (bpL (cx p2 p5 p8 p11) 4), .int .i64 (bpH (cx p0 p3 p6 p9) 4), .int .i64 (bpH (cx p1 p4 p7 p10) 4), .int .i64 (bpH (cx p2 p5 p8 p11) 4)] 28)
  replace b1 := b1.alloc (.cells #[.int .i64 (bpL (cx p0 p3 p6 p9) 4), .int .i64 (bpL (cx p1 p4 p7 p10) 4), .int .i64 (bpL (cx p2 p5 p8 p11) 4), .int .i64 (bpH (cx p0 p3 p6 p9) 4), .int .i64 (bpH (cx p1 p4 p7 p10) 4), .int .i64 (bpH (cx p2 p5 p8 p11) 4)] 28)
  have b2 := Blk.new w1 28 #[.int .i64 (bpL (cx p0 p3 p6 p9) 4), .int .i64 (bpL (cx p1 p4 p7 p10) 4), .int .i64 (bpL (cx p2 p5 p8 p11) 4), .int .i64 (bpH (cx p0 p3 p6 p9) 4), .int .i64 (bpH (cx p1 p4 p7 p10) 4), .int .i64 (bpH (cx p2 p5 p8 p11) 4)]
  replace hB := hB.alloc hB.size (.cells #[.int .i64 (bpL (cx p0 p3 p6 p9) 4), .int .i64 (bpL (cx p1 p4 p7 p10) 4), .int .i64 (bpL (cx p2 p5 p8 p11) 4), .int .i64 (bpH (cx p0 p3 p6 p9) 4), .int .i64 (bpH (cx p1 p4 p7 p10) 4), .int .i64 (bpH (cx p2 p5 p8 p11) 4)] 28)
  clear c0 f0 l0 c1 f1 l1
  generalize w1.heap.size = q2 at b2 g2 d2_0 d2_1 ⊢
  generalize w1.alloc (.cells #[.int .i64 (bpL (cx p0 p3 p6 p9) 4), .int .i64 (bpL (cx p1 p4 p7 p10) 4), .int .i64 (bpL (cx p2 p5 p8 p11) 4), .int .i64 (bpH (cx p0 p3 p6 p9) 4), .int .i64 (bpH (cx p1 p4 p7 p10) 4), .int .i64 (bpH (cx p2 p5 p8 p11) 4)] 28) = W2 at hB b0 b1 b2 ⊢
  have c0 := b0.cell
  have f0 := b0.frozen
  have l0 := b0.lt
  have c1 := b1.cell
  have f1 := b1.frozen
  have l1 := b1.lt
  have c2 := b2.cell
  have f2 := b2.frozen
  have l2 := b2.lt
  refine (eqBox_same _ _ _ _ _ _ _).mono ?_
  rintro e w1 ⟨rfl, hb⟩
  have hB := (by with_reducible first | exact b_keep hb hB | exact b_keep hb hB.drew)
  replace b0 : Blk w1 _ _ _ := (by with_reducible first | exact Blk.keep hb b0 | exact Blk.keep hb b0.drew)
  replace b1 : Blk w1 _ _ _ := (by with_reducible first | exact Blk.keep hb b1 | exact Blk.keep hb b1.drew)
  replace b2 : Blk w1 _ _ _ := (by with_reducible first | exact Blk.keep hb b2 | exact Blk.keep hb b2.drew)
  replace l0 := b0.lt
  replace l1 := b1.lt
  replace l2 := b2.lt
  replace c0 := b0.cell
  replace c1 := b1.cell
  replace c2 := b2.cell
  replace f0 := b0.frozen
  replace f1 := b1.frozen
  replace f2 := b2.frozen
  clear hb
  go_wp2
  go_ret
  exact ⟨rfl, hB⟩

set_option maxRecDepth 100000 in
theorem FnExactPatchBounds_run {H : Type} {enc : TypeId × Value → H} (W : World) (base : Nat) (args : Array Value) (ds : List (DataW H)) (p : List MemPlace)
    (hl : args.toList.length = Try.f10.params.toList.length)
    (hval : ∀ (j : Nat) t v, Try.f10.params[j]? = some t → args[j]? = some v → Value.okWide Try.prog W .any base t v)
    (_ : DataW.TrodAll enc Try.prog W 0 (fun _ => true) true Try.f10.params.toList args.toList ds p) :
    Calls Try.prog 10 args W fun e w' => e = .returned (.bool true) ∧ Below W.heap.size W w' := by
  rw [Try.params10] at hl hval
  obtain ⟨v0, rfl⟩ := Fr.arr1 hl
  obtain ⟨p0, p1, p2, p3, p4, p5, p6, p7, p8, p9, p10, p11, rfl⟩ := open_patch (hval 0 46 v0 rfl rfl)
  exact lawPatchBounds p0 p1 p2 p3 p4 p5 p6 p7 p8 p9 p10 p11 W

set_option maxRecDepth 100000 in
theorem FnExactPatchBounds_lifted (os : Os) (started : os.Started) (H : Type) (enc : TypeId × Value → H) :
    ReturnsInHanded {} Try.checked os 10 .any (Rows.fnExactPatchBoundsSpec.pre6 enc Try.prog Try.f10 Rows.fnExactPatchBoundsRow.domain false) (Rows.fnExactPatchBoundsSpec.post enc Try.prog Try.f10 false true false false) := by
  refine returnsInHanded_of_change (C := Try.checked) own started (by kernel_rfl) Try.func10
    (ChangeSpec.witness6 (enc := enc) (C := Try.checked) false ⟨#[], #[.agg #[.int .i64 (0), .int .i64 (0), .int .i64 (0), .int .i64 (0), .int .i64 (0), .int .i64 (0), .int .i64 (0), .int .i64 (0), .int .i64 (0), .int .i64 (0), .int .i64 (0), .int .i64 (0)]], []⟩ 8 (by kernel_rfl) (by kernel_rfl) (by kernel_rfl) (by kernel_rfl)) ?_
  intro W base args ds gs before hval hW _ _
  exact Fr.contract (P := Try.prog) (tb := 4) laidOut (by kernel_rfl) rfl rfl (by kernel_rfl) (fun ds hl => by match ds, hl with | [_], _ => rfl) FnExactPatchBounds_run W base args ds gs before hval hW

theorem FnExactPatchBounds_holds : Rows.FnExactPatchBoundsSaid :=
  OpenClaim.holds_of_wide 10 Try.f10 rfl rfl rfl rfl rfl rfl rfl ⟨rfl, rfl, rfl, rfl, rfl⟩ rfl rfl rfl rfl rfl (by kernel_rfl) Try.func10 (by kernel_rfl)
    (of_decide_eq_true (by kernel_rfl)) (by unfold Func.isWrapper; first | (rw [if_pos (by decide +kernel)]; kernel_rfl) | (rw [if_neg (by decide +kernel)]; exact ⟨rfl, rfl⟩))
    (fun os started H enc _ => FnExactPatchBounds_lifted os started H enc)
#print axioms FnExactPatchBounds_holds
end Go.Proofs.Ytobfccoljijnkaa
