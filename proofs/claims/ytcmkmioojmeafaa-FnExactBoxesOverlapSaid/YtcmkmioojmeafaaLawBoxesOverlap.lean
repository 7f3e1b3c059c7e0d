/- BoxesOverlap: the program's function and the reference's give the same result, for all arguments. No condition. -/
import Derived.Test.YtcmkmioojmeafaaOpen
import Derived.Deep.DeepCutAuto
import Derived.Test.YtcmkmioojmeafaaBox2
namespace Go.Proofs.Ytcmkmioojmeafaa
open Go.ChangeShapes Go.WideShapes Go.ChangeAt Go.RowKit

set_option maxHeartbeats 2000000 in
theorem lawBoxesOverlap (pa0 pb0 pc0 pd0 pe0 pf0 pa1 pb1 pc1 pd1 pe1 pf1 : Int) (w : World) :
    Calls Try.prog 10 #[.agg #[.int .i64 (pa0), .int .i64 (pb0), .int .i64 (pc0), .int .i64 (pd0), .int .i64 (pe0), .int .i64 (pf0)], .agg #[.int .i64 (pa1), .int .i64 (pb1), .int .i64 (pc1), .int .i64 (pd1), .int .i64 (pe1), .int .i64 (pf1)]] w fun e w' => e = .returned (.bool true) ∧ Below w.heap.size w w' := by
  have hB := below2 w (.cells #[.int .i64 (pa0), .int .i64 (pb0), .int .i64 (pc0), .int .i64 (pd0), .int .i64 (pe0), .int .i64 (pf0)] 37) (.cells #[.int .i64 (pa1), .int .i64 (pb1), .int .i64 (pc1), .int .i64 (pd1), .int .i64 (pe1), .int .i64 (pf1)] 37)
  obtain ⟨b0, b1⟩ := blk2 w #[.int .i64 (pa0), .int .i64 (pb0), .int .i64 (pc0), .int .i64 (pd0), .int .i64 (pe0), .int .i64 (pf0)] #[.int .i64 (pa1), .int .i64 (pb1), .int .i64 (pc1), .int .i64 (pd1), .int .i64 (pe1), .int .i64 (pf1)] 37 37
  go_enter Try.func10, Try.ntmps10
  go_wp2_with fail
  generalize ((w.alloc (.cells #[.int .i64 (pa0), .int .i64 (pb0), .int .i64 (pc0), .int .i64 (pd0), .int .i64 (pe0), .int .i64 (pf0)] 37)).alloc (.cells #[.int .i64 (pa1), .int .i64 (pb1), .int .i64 (pc1), .int .i64 (pd1), .int .i64 (pe1), .int .i64 (pf1)] 37)) = W0 at hB b0 b1 ⊢
  have c0 := b0.cell
  have f0 := b0.frozen
  have l0 := b0.lt
  have c1 := b1.cell
  have f1 := b1.frozen
  have l1 := b1.lt
  go_region_held3 (fun w' => (∀ i, w'.cell? ⟨w.heap.size, i, none⟩ = (#[.int .i64 (pa0), .int .i64 (pb0), .int .i64 (pc0), .int .i64 (pd0), .int .i64 (pe0), .int .i64 (pf0)] : Array Value)[i]?) ∧ (∀ i, w'.cell? ⟨w.heap.size + 1, i, none⟩ = (#[.int .i64 (pa1), .int .i64 (pb1), .int .i64 (pc1), .int .i64 (pd1), .int .i64 (pe1), .int .i64 (pf1)] : Array Value)[i]?)) (first | with_reducible exact ⟨b0.cell, b1.cell⟩ | with_reducible exact ⟨b0.drew.cell, b1.drew.cell⟩ | with_reducible exact ⟨(b0.alloc _).cell, (b1.alloc _).cell⟩ | with_reducible exact ⟨(b0.alloc _).drew.cell, (b1.alloc _).drew.cell⟩ | exact ⟨(b0.far3 (by omega) _ _ _).cell, (b1.far3 (by omega) _ _ _).cell⟩ | exact ⟨(b0.far3 (by omega) _ _ _).drew.cell, (b1.far3 (by omega) _ _ _).drew.cell⟩ | go_keep)
    (first
      | (go_at_call 25; refine (toBox_any _ _ _ _ _ _ _).mono ?_; rintro e w1 ⟨rfl, hb⟩; have hB := (by with_reducible first | exact b_keep hb hB | exact b_keep hb hB.drew); replace b0 : Blk w1 _ _ _ := (by with_reducible first | exact Blk.keep hb b0 | exact Blk.keep hb b0.drew); replace b1 : Blk w1 _ _ _ := (by with_reducible first | exact Blk.keep hb b1 | exact Blk.keep hb b1.drew); replace l0 := b0.lt; replace l1 := b1.lt; replace c0 := b0.cell; replace c1 := b1.cell; replace f0 := b0.frozen; replace f1 := b1.frozen)
      | (go_at_call 30; refine (boxesOverlapS pa0 pb0 pc0 pd0 pe0 pf0 pa1 pb1 pc1 pd1 pe1 pf1 _).mono ?_; rintro e w1 ⟨rfl, hb⟩; have hB := (by with_reducible first | exact b_keep hb hB | exact b_keep hb hB.drew); replace b0 : Blk w1 _ _ _ := (by with_reducible first | exact Blk.keep hb b0 | exact Blk.keep hb b0.drew); replace b1 : Blk w1 _ _ _ := (by with_reducible first | exact Blk.keep hb b1 | exact Blk.keep hb b1.drew); replace l0 := b0.lt; replace l1 := b1.lt; replace c0 := b0.cell; replace c1 := b1.cell; replace f0 := b0.frozen; replace f1 := b1.frozen))
  go_wp2_with fail
  go_region_held3 (fun w' => (∀ i, w'.cell? ⟨w.heap.size, i, none⟩ = (#[.int .i64 (pa0), .int .i64 (pb0), .int .i64 (pc0), .int .i64 (pd0), .int .i64 (pe0), .int .i64 (pf0)] : Array Value)[i]?) ∧ (∀ i, w'.cell? ⟨w.heap.size + 1, i, none⟩ = (#[.int .i64 (pa1), .int .i64 (pb1), .int .i64 (pc1), .int .i64 (pd1), .int .i64 (pe1), .int .i64 (pf1)] : Array Value)[i]?)) (first | with_reducible exact ⟨b0.cell, b1.cell⟩ | with_reducible exact ⟨b0.drew.cell, b1.drew.cell⟩ | with_reducible exact ⟨(b0.alloc _).cell, (b1.alloc _).cell⟩ | with_reducible exact ⟨(b0.alloc _).drew.cell, (b1.alloc _).drew.cell⟩ | exact ⟨(b0.far3 (by omega) _ _ _).cell, (b1.far3 (by omega) _ _ _).cell⟩ | exact ⟨(b0.far3 (by omega) _ _ _).drew.cell, (b1.far3 (by omega) _ _ _).drew.cell⟩ | go_keep)
    (first
      | (go_at_call 25; refine (toBox_any _ _ _ _ _ _ _).mono ?_; rintro e w1 ⟨rfl, hb⟩; have hB := (by with_reducible first | exact b_keep hb hB | exact b_keep hb hB.drew); replace b0 : Blk w1 _ _ _ := (by with_reducible first | exact Blk.keep hb b0 | exact Blk.keep hb b0.drew); replace b1 : Blk w1 _ _ _ := (by with_reducible first | exact Blk.keep hb b1 | exact Blk.keep hb b1.drew); replace l0 := b0.lt; replace l1 := b1.lt; replace c0 := b0.cell; replace c1 := b1.cell; replace f0 := b0.frozen; replace f1 := b1.frozen)
      | (go_at_call 31; refine (boxesOverlapI pa0 pb0 pc0 pd0 pe0 pf0 pa1 pb1 pc1 pd1 pe1 pf1 _).mono ?_; rintro e w1 ⟨rfl, hb⟩; have hB := (by with_reducible first | exact b_keep hb hB | exact b_keep hb hB.drew); replace b0 : Blk w1 _ _ _ := (by with_reducible first | exact Blk.keep hb b0 | exact Blk.keep hb b0.drew); replace b1 : Blk w1 _ _ _ := (by with_reducible first | exact Blk.keep hb b1 | exact Blk.keep hb b1.drew); replace l0 := b0.lt; replace l1 := b1.lt; replace c0 := b0.cell; replace c1 := b1.cell; replace f0 := b0.frozen; replace f1 := b1.frozen))
  clear b0 b1 c0 c1 f0 f1 l0 l1
  cases ovB pa0 pb0 pc0 pd0 pe0 pf0 pa1 pb1 pc1 pd1 pe1 pf1
  all_goals
    go_wp2
    go_ret
    exact ⟨rfl, hB⟩

theorem FnExactBoxesOverlap_run {H : Type} {enc : TypeId × Value → H} (W : World) (base : Nat) (args : Array Value) (ds : List (DataW H)) (p : List MemPlace)
    (hl : args.toList.length = Try.f10.params.toList.length)
    (hval : ∀ (j : Nat) t v, Try.f10.params[j]? = some t → args[j]? = some v → Value.okWide Try.prog W .any base t v)
    (_ : DataW.TrodAll enc Try.prog W 0 (fun _ => true) true Try.f10.params.toList args.toList ds p) :
    Calls Try.prog 10 args W fun e w' => e = .returned (.bool true) ∧ Below W.heap.size W w' := by
  rw [Try.params10] at hl hval
  obtain ⟨v0, v1, rfl⟩ := Fr.arr2 hl
  obtain ⟨pa0, pb0, pc0, pd0, pe0, pf0, rfl⟩ := open_box (hval 0 37 v0 rfl rfl)
  obtain ⟨pa1, pb1, pc1, pd1, pe1, pf1, rfl⟩ := open_box (hval 1 37 v1 rfl rfl)
  exact lawBoxesOverlap pa0 pb0 pc0 pd0 pe0 pf0 pa1 pb1 pc1 pd1 pe1 pf1 W

set_option maxRecDepth 100000 in
theorem FnExactBoxesOverlap_lifted (os : Os) (started : os.Started) (H : Type) (enc : TypeId × Value → H) :
    ReturnsInHanded {} Try.checked os 10 .any (Rows.fnExactBoxesOverlapSpec.pre6 enc Try.prog Try.f10 Rows.fnExactBoxesOverlapRow.domain false) (Rows.fnExactBoxesOverlapSpec.post enc Try.prog Try.f10 false true false false) := by
  refine returnsInHanded_of_change (C := Try.checked) own started (by kernel_rfl) Try.func10
    (ChangeSpec.witness6 (enc := enc) (C := Try.checked) false ⟨#[], #[.agg #[.int .i64 (0), .int .i64 (0), .int .i64 (0), .int .i64 (0), .int .i64 (0), .int .i64 (0)], .agg #[.int .i64 (0), .int .i64 (0), .int .i64 (0), .int .i64 (0), .int .i64 (0), .int .i64 (0)]], []⟩ 8 (by kernel_rfl) (by kernel_rfl) (by kernel_rfl) (by kernel_rfl)) ?_
  intro W base args ds gs before hval hW _ _
  exact Fr.contract (P := Try.prog) (tb := 4) laidOut (by kernel_rfl) rfl rfl (by kernel_rfl) (fun ds hl => by match ds, hl with | [_, _], _ => rfl) FnExactBoxesOverlap_run W base args ds gs before hval hW

theorem FnExactBoxesOverlap_holds : Rows.FnExactBoxesOverlapSaid :=
  OpenClaim.holds_of_wide 10 Try.f10 rfl rfl rfl rfl rfl rfl rfl ⟨rfl, rfl, rfl, rfl, rfl⟩ rfl rfl rfl rfl rfl (by kernel_rfl) Try.func10 (by kernel_rfl)
    (of_decide_eq_true (by kernel_rfl)) (by unfold Func.isWrapper; first | (rw [if_pos (by decide +kernel)]; kernel_rfl) | (rw [if_neg (by decide +kernel)]; exact ⟨rfl, rfl⟩))
    (fun os started H enc _ => FnExactBoxesOverlap_lifted os started H enc)
#print axioms FnExactBoxesOverlap_holds
end Go.Proofs.Ytcmkmioojmeafaa
