/- EvalSubPatch: the program's function and the reference's give the same result, for all arguments. No condition. -/
import Derived.Test.YtobfccoljijnkaaOpen
import Derived.Test.YtobfccoljijnkaaToArr
import Derived.Test.YtobfccoljijnkaaEvSub
import Derived.Deep.DeepCutAuto
namespace Go.Proofs.Ytobfccoljijnkaa
open Go.ChangeShapes Go.WideShapes Go.ChangeAt Go.RowKit

set_option maxHeartbeats 8000000 in
theorem lawEvalSubPatch (p0 p1 p2 p3 p4 p5 p6 p7 p8 p9 p10 p11 u v m i j n : Int) (w : World) :
    Calls Try.prog 12 #[.agg #[.int .i64 (p0), .int .i64 (p1), .int .i64 (p2), .int .i64 (p3), .int .i64 (p4), .int .i64 (p5), .int .i64 (p6), .int .i64 (p7), .int .i64 (p8), .int .i64 (p9), .int .i64 (p10), .int .i64 (p11)], .agg #[.int .i64 (u), .int .i64 (v), .int .i64 (m)], .int .i64 i, .int .i64 j, .int .i64 n] w fun r w' => r = .returned (.bool true) ∧ Below w.heap.size w w' := by
  have hB := below2 w (.cells #[.int .i64 (p0), .int .i64 (p1), .int .i64 (p2), .int .i64 (p3), .int .i64 (p4), .int .i64 (p5), .int .i64 (p6), .int .i64 (p7), .int .i64 (p8), .int .i64 (p9), .int .i64 (p10), .int .i64 (p11)] 46) (.cells #[.int .i64 (u), .int .i64 (v), .int .i64 (m)] 36)
  obtain ⟨b0, b1⟩ := blk2 w #[.int .i64 (p0), .int .i64 (p1), .int .i64 (p2), .int .i64 (p3), .int .i64 (p4), .int .i64 (p5), .int .i64 (p6), .int .i64 (p7), .int .i64 (p8), .int .i64 (p9), .int .i64 (p10), .int .i64 (p11)] #[.int .i64 (u), .int .i64 (v), .int .i64 (m)] 46 36
  go_enter Try.func12, Try.ntmps12
  go_upto_region 1 with fail
  generalize ((w.alloc (.cells #[.int .i64 (p0), .int .i64 (p1), .int .i64 (p2), .int .i64 (p3), .int .i64 (p4), .int .i64 (p5), .int .i64 (p6), .int .i64 (p7), .int .i64 (p8), .int .i64 (p9), .int .i64 (p10), .int .i64 (p11)] 46)).alloc (.cells #[.int .i64 (u), .int .i64 (v), .int .i64 (m)] 36)) = W0 at hB b0 b1 ⊢
  have hB0 := hB
  have c0 := b0.cell
  have f0 := b0.frozen
  have l0 := b0.lt
  have c1 := b1.cell
  have f1 := b1.frozen
  have l1 := b1.lt
  go_cut [11, 12] (fun s t wx => ∃ q : Nat, s = .pointer (some ⟨q, 0, none⟩) ∧ t = .bool (esOk u v m i j n) ∧ w.heap.size + 1 < q ∧ Blk wx q 26 #[.int .i64 (esF p0 p3 p6 p9 u v m i j n), .int .i64 (esF p1 p4 p7 p10 u v m i j n), .int .i64 (esF p2 p5 p8 p11 u v m i j n)] ∧ Blk wx w.heap.size 46 #[.int .i64 (p0), .int .i64 (p1), .int .i64 (p2), .int .i64 (p3), .int .i64 (p4), .int .i64 (p5), .int .i64 (p6), .int .i64 (p7), .int .i64 (p8), .int .i64 (p9), .int .i64 (p10), .int .i64 (p11)] ∧ Blk wx (w.heap.size + 1) 36 #[.int .i64 (u), .int .i64 (v), .int .i64 (m)] ∧ Below w.heap.size w wx)
  case first =>
    go_region_held3 (fun w' => (∀ i, w'.cell? ⟨w.heap.size, i, none⟩ = (#[.int .i64 (p0), .int .i64 (p1), .int .i64 (p2), .int .i64 (p3), .int .i64 (p4), .int .i64 (p5), .int .i64 (p6), .int .i64 (p7), .int .i64 (p8), .int .i64 (p9), .int .i64 (p10), .int .i64 (p11)] : Array Value)[i]?) ∧ (∀ i, w'.cell? ⟨w.heap.size + 1, i, none⟩ = (#[.int .i64 (u), .int .i64 (v), .int .i64 (m)] : Array Value)[i]?)) (first | with_reducible exact ⟨b0.cell, b1.cell⟩ | with_reducible exact ⟨b0.drew.cell, b1.drew.cell⟩ | with_reducible exact ⟨(b0.alloc _).cell, (b1.alloc _).cell⟩ | with_reducible exact ⟨(b0.alloc _).drew.cell, (b1.alloc _).drew.cell⟩ | exact ⟨(b0.far3 (by omega) _ _ _).cell, (b1.far3 (by omega) _ _ _).cell⟩ | exact ⟨(b0.far3 (by omega) _ _ _).drew.cell, (b1.far3 (by omega) _ _ _).drew.cell⟩ | go_keep)
      (first
        | (go_at_call 27; refine (toPatch_any p0 p1 p2 p3 p4 p5 p6 p7 p8 p9 p10 p11 _).mono ?_; rintro e w1 ⟨rfl, hb⟩; (first | (replace bn := bn.keep hb) | (have bn : Blk w1 _ 26 #[.int .i64 (0), .int .i64 (0), .int .i64 (0)] := (by with_reducible first | exact Blk.keep hb (Blk.new _ _ _) | exact Blk.keep hb (Blk.new _ _ _).drew); have gq0 := b0.lt; have gq1 := b1.lt; have gq := hB.size) | skip); (first | (have cn := bn.cell; have fn := bn.frozen; have ln := bn.lt) | skip); replace hB := (by with_reducible first | exact b_keep hb hB | exact b_keep hb hB.drew | exact b_keep hb (hB.alloc hB.size _) | exact b_keep hb (hB.alloc hB.size _).drew); replace b0 : Blk w1 _ _ _ := (by with_reducible first | exact Blk.keep hb b0 | exact Blk.keep hb b0.drew | exact Blk.keep hb (b0.alloc _) | exact Blk.keep hb (b0.alloc _).drew); replace b1 : Blk w1 _ _ _ := (by with_reducible first | exact Blk.keep hb b1 | exact Blk.keep hb b1.drew | exact Blk.keep hb (b1.alloc _) | exact Blk.keep hb (b1.alloc _).drew); replace l0 := b0.lt; replace c0 := b0.cell; replace f0 := b0.frozen; replace l1 := b1.lt; replace c1 := b1.cell; replace f1 := b1.frozen)
        | (go_at_call 21; refine (toSubPatch_any u v m _).mono ?_; rintro e w1 ⟨rfl, hb⟩; (first | (replace bn := bn.keep hb) | (have bn : Blk w1 _ 26 #[.int .i64 (0), .int .i64 (0), .int .i64 (0)] := (by with_reducible first | exact Blk.keep hb (Blk.new _ _ _) | exact Blk.keep hb (Blk.new _ _ _).drew); have gq0 := b0.lt; have gq1 := b1.lt; have gq := hB.size) | skip); (first | (have cn := bn.cell; have fn := bn.frozen; have ln := bn.lt) | skip); replace hB := (by with_reducible first | exact b_keep hb hB | exact b_keep hb hB.drew | exact b_keep hb (hB.alloc hB.size _) | exact b_keep hb (hB.alloc hB.size _).drew); replace b0 : Blk w1 _ _ _ := (by with_reducible first | exact Blk.keep hb b0 | exact Blk.keep hb b0.drew | exact Blk.keep hb (b0.alloc _) | exact Blk.keep hb (b0.alloc _).drew); replace b1 : Blk w1 _ _ _ := (by with_reducible first | exact Blk.keep hb b1 | exact Blk.keep hb b1.drew | exact Blk.keep hb (b1.alloc _) | exact Blk.keep hb (b1.alloc _).drew); replace l0 := b0.lt; replace c0 := b0.cell; replace f0 := b0.frozen; replace l1 := b1.lt; replace c1 := b1.cell; replace f1 := b1.frozen)
        | (go_at_call 45; refine (evalSubS p0 p1 p2 p3 p4 p5 p6 p7 p8 p9 p10 p11 u v m i j n _).mono ?_; rintro e w1 ⟨rfl, hb⟩; (first | (replace bn := bn.keep hb) | (have bn : Blk w1 _ 26 #[.int .i64 (0), .int .i64 (0), .int .i64 (0)] := (by with_reducible first | exact Blk.keep hb (Blk.new _ _ _) | exact Blk.keep hb (Blk.new _ _ _).drew); have gq0 := b0.lt; have gq1 := b1.lt; have gq := hB.size) | skip); (first | (have cn := bn.cell; have fn := bn.frozen; have ln := bn.lt) | skip); replace hB := (by with_reducible first | exact b_keep hb hB | exact b_keep hb hB.drew | exact b_keep hb (hB.alloc hB.size _) | exact b_keep hb (hB.alloc hB.size _).drew); replace b0 : Blk w1 _ _ _ := (by with_reducible first | exact Blk.keep hb b0 | exact Blk.keep hb b0.drew | exact Blk.keep hb (b0.alloc _) | exact Blk.keep hb (b0.alloc _).drew); replace b1 : Blk w1 _ _ _ := (by with_reducible first | exact Blk.keep hb b1 | exact Blk.keep hb b1.drew | exact Blk.keep hb (b1.alloc _) | exact Blk.keep hb (b1.alloc _).drew); replace l0 := b0.lt; replace c0 := b0.cell; replace f0 := b0.frozen; replace l1 := b1.lt; replace c1 := b1.cell; replace f1 := b1.frozen))
    all_goals
      go_wp2_with fail
      go_meet
      first
        | with_reducible exact ⟨_, rfl, rfl, b1.lt, Blk.new _ _ _, b0.alloc _, b1.alloc _, hB.alloc hB.size _⟩
        | exact ⟨_, rfl, rfl, gq1, bn.set3 _ _ _, b0.far3 (by omega) _ _ _, b1.far3 (by omega) _ _ _, below_set3 hB gq _ _ _⟩
  case rest =>
    obtain ⟨q2, rfl, rfl, g2, b2, b0, b1, hB⟩ := hcut
    clear hB0
    have hB0 := hB
    have c0 := b0.cell
    have f0 := b0.frozen
    have l0 := b0.lt
    have c1 := b1.cell
    have f1 := b1.frozen
    have l1 := b1.lt
    have c2 := b2.cell
    have f2 := b2.frozen
    have l2 := b2.lt
    go_upto_region 2 with fail
    go_cut [13, 14] (fun s t wx => ∃ q : Nat, s = .pointer (some ⟨q, 0, none⟩) ∧ t = .bool (esOk u v m i j n) ∧ w.heap.size + 1 < q ∧ Blk wx q 26 #[.int .i64 (esF p0 p3 p6 p9 u v m i j n), .int .i64 (esF p1 p4 p7 p10 u v m i j n), .int .i64 (esF p2 p5 p8 p11 u v m i j n)] ∧ Blk wx w.heap.size 46 #[.int .i64 (p0), .int .i64 (p1), .int .i64 (p2), .int .i64 (p3), .int .i64 (p4), .int .i64 (p5), .int .i64 (p6), .int .i64 (p7), .int .i64 (p8), .int .i64 (p9), .int .i64 (p10), .int .i64 (p11)] ∧ Blk wx (w.heap.size + 1) 36 #[.int .i64 (u), .int .i64 (v), .int .i64 (m)] ∧ Blk wx q2 26 #[.int .i64 (esF p0 p3 p6 p9 u v m i j n), .int .i64 (esF p1 p4 p7 p10 u v m i j n), .int .i64 (esF p2 p5 p8 p11 u v m i j n)] ∧ Below w.heap.size w wx)
    case first =>
      go_region_held3 (fun w' => (∀ i, w'.cell? ⟨w.heap.size, i, none⟩ = (#[.int .i64 (p0), .int .i64 (p1), .int .i64 (p2), .int .i64 (p3), .int .i64 (p4), .int .i64 (p5), .int .i64 (p6), .int .i64 (p7), .int .i64 (p8), .int .i64 (p9), .int .i64 (p10), .int .i64 (p11)] : Array Value)[i]?) ∧ (∀ i, w'.cell? ⟨w.heap.size + 1, i, none⟩ = (#[.int .i64 (u), .int .i64 (v), .int .i64 (m)] : Array Value)[i]?)) (first | with_reducible exact ⟨b0.cell, b1.cell⟩ | with_reducible exact ⟨b0.drew.cell, b1.drew.cell⟩ | with_reducible exact ⟨(b0.alloc _).cell, (b1.alloc _).cell⟩ | with_reducible exact ⟨(b0.alloc _).drew.cell, (b1.alloc _).drew.cell⟩ | exact ⟨(b0.far3 (by omega) _ _ _).cell, (b1.far3 (by omega) _ _ _).cell⟩ | exact ⟨(b0.far3 (by omega) _ _ _).drew.cell, (b1.far3 (by omega) _ _ _).drew.cell⟩ | go_keep)
        (first
          | (go_at_call 27; refine (toPatch_any p0 p1 p2 p3 p4 p5 p6 p7 p8 p9 p10 p11 _).mono ?_; rintro e w1 ⟨rfl, hb⟩; (first | (replace bn := bn.keep hb) | (have bn : Blk w1 _ 26 #[.int .i64 (0), .int .i64 (0), .int .i64 (0)] := (by with_reducible first | exact Blk.keep hb (Blk.new _ _ _) | exact Blk.keep hb (Blk.new _ _ _).drew); have gq0 := b0.lt; have gq1 := b1.lt; have gq2 := b2.lt; have gq := hB.size) | skip); (first | (have cn := bn.cell; have fn := bn.frozen; have ln := bn.lt) | skip); replace hB := (by with_reducible first | exact b_keep hb hB | exact b_keep hb hB.drew | exact b_keep hb (hB.alloc hB.size _) | exact b_keep hb (hB.alloc hB.size _).drew); replace b0 : Blk w1 _ _ _ := (by with_reducible first | exact Blk.keep hb b0 | exact Blk.keep hb b0.drew | exact Blk.keep hb (b0.alloc _) | exact Blk.keep hb (b0.alloc _).drew); replace b1 : Blk w1 _ _ _ := (by with_reducible first | exact Blk.keep hb b1 | exact Blk.keep hb b1.drew | exact Blk.keep hb (b1.alloc _) | exact Blk.keep hb (b1.alloc _).drew); replace b2 : Blk w1 _ _ _ := (by with_reducible first | exact Blk.keep hb b2 | exact Blk.keep hb b2.drew | exact Blk.keep hb (b2.alloc _) | exact Blk.keep hb (b2.alloc _).drew); replace l0 := b0.lt; replace c0 := b0.cell; replace f0 := b0.frozen; replace l1 := b1.lt; replace c1 := b1.cell; replace f1 := b1.frozen; replace l2 := b2.lt; replace c2 := b2.cell; replace f2 := b2.frozen)
          | (go_at_call 21; refine (toSubPatch_any u v m _).mono ?_; rintro e w1 ⟨rfl, hb⟩; (first | (replace bn := bn.keep hb) | (have bn : Blk w1 _ 26 #[.int .i64 (0), .int .i64 (0), .int .i64 (0)] := (by with_reducible first | exact Blk.keep hb (Blk.new _ _ _) | exact Blk.keep hb (Blk.new _ _ _).drew); have gq0 := b0.lt; have gq1 := b1.lt; have gq2 := b2.lt; have gq := hB.size) | skip); (first | (have cn := bn.cell; have fn := bn.frozen; have ln := bn.lt) | skip); replace hB := (by with_reducible first | exact b_keep hb hB | exact b_keep hb hB.drew | exact b_keep hb (hB.alloc hB.size _) | exact b_keep hb (hB.alloc hB.size _).drew); replace b0 : Blk w1 _ _ _ := (by with_reducible first | exact Blk.keep hb b0 | exact Blk.keep hb b0.drew | exact Blk.keep hb (b0.alloc _) | exact Blk.keep hb (b0.alloc _).drew); replace b1 : Blk w1 _ _ _ := (by with_reducible first | exact Blk.keep hb b1 | exact Blk.keep hb b1.drew | exact Blk.keep hb (b1.alloc _) | exact Blk.keep hb (b1.alloc _).drew); replace b2 : Blk w1 _ _ _ := (by with_reducible first | exact Blk.keep hb b2 | exact Blk.keep hb b2.drew | exact Blk.keep hb (b2.alloc _) | exact Blk.keep hb (b2.alloc _).drew); replace l0 := b0.lt; replace c0 := b0.cell; replace f0 := b0.frozen; replace l1 := b1.lt; replace c1 := b1.cell; replace f1 := b1.frozen; replace l2 := b2.lt; replace c2 := b2.cell; replace f2 := b2.frozen)
          | (go_at_call 37; refine (evalSubI p0 p1 p2 p3 p4 p5 p6 p7 p8 p9 p10 p11 u v m i j n _).mono ?_; rintro e w1 ⟨rfl, hb⟩; (first | (replace bn := bn.keep hb) | (have bn : Blk w1 _ 26 #[.int .i64 (0), .int .i64 (0), .int .i64 (0)] := (by with_reducible first | exact Blk.keep hb (Blk.new _ _ _) | exact Blk.keep hb (Blk.new _ _ _).drew); have gq0 := b0.lt; have gq1 := b1.lt; have gq2 := b2.lt; have gq := hB.size) | skip); (first | (have cn := bn.cell; have fn := bn.frozen; have ln := bn.lt) | skip); replace hB := (by with_reducible first | exact b_keep hb hB | exact b_keep hb hB.drew | exact b_keep hb (hB.alloc hB.size _) | exact b_keep hb (hB.alloc hB.size _).drew); replace b0 : Blk w1 _ _ _ := (by with_reducible first | exact Blk.keep hb b0 | exact Blk.keep hb b0.drew | exact Blk.keep hb (b0.alloc _) | exact Blk.keep hb (b0.alloc _).drew); replace b1 : Blk w1 _ _ _ := (by with_reducible first | exact Blk.keep hb b1 | exact Blk.keep hb b1.drew | exact Blk.keep hb (b1.alloc _) | exact Blk.keep hb (b1.alloc _).drew); replace b2 : Blk w1 _ _ _ := (by with_reducible first | exact Blk.keep hb b2 | exact Blk.keep hb b2.drew | exact Blk.keep hb (b2.alloc _) | exact Blk.keep hb (b2.alloc _).drew); replace l0 := b0.lt; replace c0 := b0.cell; replace f0 := b0.frozen; replace l1 := b1.lt; replace c1 := b1.cell; replace f1 := b1.frozen; replace l2 := b2.lt; replace c2 := b2.cell; replace f2 := b2.frozen))
      all_goals
        go_wp2_with fail
        go_meet
        first
          | with_reducible exact ⟨_, rfl, rfl, b1.lt, Blk.new _ _ _, b0.alloc _, b1.alloc _, b2.alloc _, hB.alloc hB.size _⟩
          | exact ⟨_, rfl, rfl, gq1, bn.set3 _ _ _, b0.far3 (by omega) _ _ _, b1.far3 (by omega) _ _ _, b2.far3 (by omega) _ _ _, below_set3 hB gq _ _ _⟩
    case rest =>
      obtain ⟨q3, rfl, rfl, g3, b3, b0, b1, b2, hB⟩ := hcut
      clear hB0
      have hB0 := hB
      have c0 := b0.cell
      have f0 := b0.frozen
      have l0 := b0.lt
      have c1 := b1.cell
      have f1 := b1.frozen
      have l1 := b1.lt
      have c2 := b2.cell
      have f2 := b2.frozen
      have l2 := b2.lt
      have c3 := b3.cell
      have f3 := b3.frozen
      have l3 := b3.lt
      go_wp2_with fail
      refine (eqVec_same _ _ _ _).mono ?_
      rintro r w2 ⟨rfl, hb⟩
      replace hB := b_keep hb hB
      clear c0 c1 c2 c3 f0 f1 f2 f3 l0 l1 l2 l3 b0 b1 b2 b3 hb
      cases esOk u v m i j n
      all_goals
        go_wp2
        go_ret
        exact ⟨rfl, hB⟩

set_option maxRecDepth 100000 in
theorem FnExactEvalSubPatch_run {H : Type} {enc : TypeId × Value → H} (W : World) (base : Nat) (args : Array Value) (ds : List (DataW H)) (p : List MemPlace)
    (hl : args.toList.length = Try.f12.params.toList.length)
    (hval : ∀ (j : Nat) t v, Try.f12.params[j]? = some t → args[j]? = some v → Value.okWide Try.prog W .any base t v)
    (_ : DataW.TrodAll enc Try.prog W 0 (fun _ => true) true Try.f12.params.toList args.toList ds p) :
    Calls Try.prog 12 args W fun e w' => e = .returned (.bool true) ∧ Below W.heap.size W w' := by
  rw [Try.params12] at hl hval
  obtain ⟨v0, v1, v2, v3, v4, rfl⟩ := Fr.arr5 hl
  obtain ⟨p0, p1, p2, p3, p4, p5, p6, p7, p8, p9, p10, p11, rfl⟩ := open_patch (hval 0 46 v0 rfl rfl)
  obtain ⟨u, v, m, rfl, _, _, _⟩ := open_subpatch (hval 1 36 v1 rfl rfl)
  obtain ⟨x0, rfl, _, _⟩ := Fr.open_one_int Try.underlying3 (hval 2 3 v2 rfl rfl)
  obtain ⟨x1, rfl, _, _⟩ := Fr.open_one_int Try.underlying3 (hval 3 3 v3 rfl rfl)
  obtain ⟨x2, rfl, _, _⟩ := Fr.open_one_int Try.underlying3 (hval 4 3 v4 rfl rfl)
  exact lawEvalSubPatch p0 p1 p2 p3 p4 p5 p6 p7 p8 p9 p10 p11 u v m x0 x1 x2 W

set_option maxRecDepth 100000 in
theorem FnExactEvalSubPatch_lifted (os : Os) (started : os.Started) (H : Type) (enc : TypeId × Value → H) :
    ReturnsInHanded {} Try.checked os 12 .any (Rows.fnExactEvalSubPatchSpec.pre6 enc Try.prog Try.f12 Rows.fnExactEvalSubPatchRow.domain false) (Rows.fnExactEvalSubPatchSpec.post enc Try.prog Try.f12 false true false false) := by
  refine returnsInHanded_of_change (C := Try.checked) own started (by kernel_rfl) Try.func12
    (ChangeSpec.witness6 (enc := enc) (C := Try.checked) false ⟨#[], #[.agg #[.int .i64 (0), .int .i64 (0), .int .i64 (0), .int .i64 (0), .int .i64 (0), .int .i64 (0), .int .i64 (0), .int .i64 (0), .int .i64 (0), .int .i64 (0), .int .i64 (0), .int .i64 (0)], .agg #[.int .i64 (0), .int .i64 (0), .int .i64 (0)], .int .i64 0, .int .i64 0, .int .i64 0], []⟩ 8 (by kernel_rfl) (by kernel_rfl) (by kernel_rfl) (by kernel_rfl)) ?_
  intro W base args ds gs before hval hW _ _
  exact Fr.contract (P := Try.prog) (tb := 4) laidOut (by kernel_rfl) rfl rfl (by kernel_rfl) (fun ds hl => by match ds, hl with | [_, _, _, _, _], _ => rfl) FnExactEvalSubPatch_run W base args ds gs before hval hW

theorem FnExactEvalSubPatch_holds : Rows.FnExactEvalSubPatchSaid :=
  OpenClaim.holds_of_wide 12 Try.f12 rfl rfl rfl rfl rfl rfl rfl ⟨rfl, rfl, rfl, rfl, rfl⟩ rfl rfl rfl rfl rfl (by kernel_rfl) Try.func12 (by kernel_rfl)
    (of_decide_eq_true (by kernel_rfl)) (by unfold Func.isWrapper; first | (rw [if_pos (by decide +kernel)]; kernel_rfl) | (rw [if_neg (by decide +kernel)]; exact ⟨rfl, rfl⟩))
    (fun os started H enc _ => FnExactEvalSubPatch_lifted os started H enc)
#print axioms FnExactEvalSubPatch_holds
end Go.Proofs.Ytobfccoljijnkaa
