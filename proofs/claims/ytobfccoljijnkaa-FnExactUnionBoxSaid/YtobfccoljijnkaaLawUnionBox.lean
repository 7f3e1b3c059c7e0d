/- UnionBox: the program's function and the reference's give the same result, for all arguments. No condition. -/
import Derived.Test.YtobfccoljijnkaaOpen
import Derived.Deep.DeepCutAuto
import Derived.Test.YtobfccoljijnkaaBoxU
namespace Go.Proofs.Ytobfccoljijnkaa
open Go.ChangeShapes Go.WideShapes Go.ChangeAt Go.RowKit

set_option maxHeartbeats 4000000 in
theorem lawUnionBox (pa pb pc pd pe pf qa qb qc qd qe qf : Int) (w : World) :
    Calls Try.prog 4 #[.agg #[.int .i64 (pa), .int .i64 (pb), .int .i64 (pc), .int .i64 (pd), .int .i64 (pe), .int .i64 (pf)], .agg #[.int .i64 (qa), .int .i64 (qb), .int .i64 (qc), .int .i64 (qd), .int .i64 (qe), .int .i64 (qf)]] w fun r w' => r = .returned (.bool true) ∧ Below w.heap.size w w' := by
  have hB := below2 w (.cells #[.int .i64 (pa), .int .i64 (pb), .int .i64 (pc), .int .i64 (pd), .int .i64 (pe), .int .i64 (pf)] 25) (.cells #[.int .i64 (qa), .int .i64 (qb), .int .i64 (qc), .int .i64 (qd), .int .i64 (qe), .int .i64 (qf)] 25)
  obtain ⟨b0, b1⟩ := blk2 w #[.int .i64 (pa), .int .i64 (pb), .int .i64 (pc), .int .i64 (pd), .int .i64 (pe), .int .i64 (pf)] #[.int .i64 (qa), .int .i64 (qb), .int .i64 (qc), .int .i64 (qd), .int .i64 (qe), .int .i64 (qf)] 25 25
  go_enter Try.func4, Try.ntmps4
  go_upto_region 1 with fail
  generalize ((w.alloc (.cells #[.int .i64 (pa), .int .i64 (pb), .int .i64 (pc), .int .i64 (pd), .int .i64 (pe), .int .i64 (pf)] 25)).alloc (.cells #[.int .i64 (qa), .int .i64 (qb), .int .i64 (qc), .int .i64 (qd), .int .i64 (qe), .int .i64 (qf)] 25)) = W0 at hB b0 b1 ⊢
  have hB0 := hB
  have c0 := b0.cell
  have f0 := b0.frozen
  have l0 := b0.lt
  have c1 := b1.cell
  have f1 := b1.frozen
  have l1 := b1.lt
  go_cut [5] (fun s wx => ∃ q : Nat, s = .pointer (some ⟨q, 0, none⟩) ∧ w.heap.size + 1 < q ∧ Blk wx q 28 #[.int .i64 (mnZ (cl pa) (cl qa)), .int .i64 (mnZ (cl pb) (cl qb)), .int .i64 (mnZ (cl pc) (cl qc)), .int .i64 (mxZ (cl pd) (cl qd)), .int .i64 (mxZ (cl pe) (cl qe)), .int .i64 (mxZ (cl pf) (cl qf))] ∧ Blk wx w.heap.size 25 #[.int .i64 (pa), .int .i64 (pb), .int .i64 (pc), .int .i64 (pd), .int .i64 (pe), .int .i64 (pf)] ∧ Blk wx (w.heap.size + 1) 25 #[.int .i64 (qa), .int .i64 (qb), .int .i64 (qc), .int .i64 (qd), .int .i64 (qe), .int .i64 (qf)] ∧ Below w.heap.size w wx)
  case first =>
    go_region_held3 (fun w' => (∀ i, w'.cell? ⟨w.heap.size, i, none⟩ = (#[.int .i64 (pa), .int .i64 (pb), .int .i64 (pc), .int .i64 (pd), .int .i64 (pe), .int .i64 (pf)] : Array Value)[i]?) ∧ (∀ i, w'.cell? ⟨w.heap.size + 1, i, none⟩ = (#[.int .i64 (qa), .int .i64 (qb), .int .i64 (qc), .int .i64 (qd), .int .i64 (qe), .int .i64 (qf)] : Array Value)[i]?)) (first | with_reducible exact ⟨b0.cell, b1.cell⟩ | with_reducible exact ⟨b0.drew.cell, b1.drew.cell⟩ | with_reducible exact ⟨(b0.alloc _).cell, (b1.alloc _).cell⟩ | with_reducible exact ⟨(b0.alloc _).drew.cell, (b1.alloc _).drew.cell⟩ | with_reducible exact ⟨(b0.far6 (by omega) _ _ _ _ _ _).cell, (b1.far6 (by omega) _ _ _ _ _ _).cell⟩ | with_reducible exact ⟨(b0.far6 (by omega) _ _ _ _ _ _).drew.cell, (b1.far6 (by omega) _ _ _ _ _ _).drew.cell⟩)
      (first
        | (go_at_call 15; refine (toBox_any _ _ _ _ _ _ _).mono ?_; rintro e w1 ⟨rfl, hb⟩; (first | (replace bn := bn.keep hb) | (have bn : Blk w1 _ 28 #[.int .i64 (0), .int .i64 (0), .int .i64 (0), .int .i64 (0), .int .i64 (0), .int .i64 (0)] := (by with_reducible first | exact Blk.keep hb (Blk.new _ _ _) | exact Blk.keep hb (Blk.new _ _ _).drew); have gq0 := b0.lt; have gq1 := b1.lt; have gq := hB.size) | skip); (first | (have cn := bn.cell; have fn := bn.frozen; have ln := bn.lt) | skip); replace hB := (by with_reducible first | exact b_keep hb hB | exact b_keep hb hB.drew | exact b_keep hb (hB.alloc hB.size _) | exact b_keep hb (hB.alloc hB.size _).drew); replace b0 : Blk w1 _ _ _ := (by with_reducible first | exact Blk.keep hb b0 | exact Blk.keep hb b0.drew | exact Blk.keep hb (b0.alloc _) | exact Blk.keep hb (b0.alloc _).drew); replace b1 : Blk w1 _ _ _ := (by with_reducible first | exact Blk.keep hb b1 | exact Blk.keep hb b1.drew | exact Blk.keep hb (b1.alloc _) | exact Blk.keep hb (b1.alloc _).drew); replace l0 := b0.lt; replace c0 := b0.cell; replace f0 := b0.frozen; replace l1 := b1.lt; replace c1 := b1.cell; replace f1 := b1.frozen)
        | (go_at_call 18; refine (unionS pa pb pc pd pe pf qa qb qc qd qe qf _).mono ?_; rintro e w1 ⟨rfl, hb⟩; (first | (replace bn := bn.keep hb) | (have bn : Blk w1 _ 28 #[.int .i64 (0), .int .i64 (0), .int .i64 (0), .int .i64 (0), .int .i64 (0), .int .i64 (0)] := (by with_reducible first | exact Blk.keep hb (Blk.new _ _ _) | exact Blk.keep hb (Blk.new _ _ _).drew); have gq0 := b0.lt; have gq1 := b1.lt; have gq := hB.size) | skip); (first | (have cn := bn.cell; have fn := bn.frozen; have ln := bn.lt) | skip); replace hB := (by with_reducible first | exact b_keep hb hB | exact b_keep hb hB.drew | exact b_keep hb (hB.alloc hB.size _) | exact b_keep hb (hB.alloc hB.size _).drew); replace b0 : Blk w1 _ _ _ := (by with_reducible first | exact Blk.keep hb b0 | exact Blk.keep hb b0.drew | exact Blk.keep hb (b0.alloc _) | exact Blk.keep hb (b0.alloc _).drew); replace b1 : Blk w1 _ _ _ := (by with_reducible first | exact Blk.keep hb b1 | exact Blk.keep hb b1.drew | exact Blk.keep hb (b1.alloc _) | exact Blk.keep hb (b1.alloc _).drew); replace l0 := b0.lt; replace c0 := b0.cell; replace f0 := b0.frozen; replace l1 := b1.lt; replace c1 := b1.cell; replace f1 := b1.frozen))
    all_goals
      go_wp2_with fail
      go_meet
      first
        | with_reducible exact ⟨_, rfl, b1.lt, Blk.new _ _ _, b0.alloc _, b1.alloc _, hB.alloc hB.size _⟩
        | exact ⟨_, rfl, gq1, bn.set6 _ _ _ _ _ _, b0.far6 (by omega) _ _ _ _ _ _, b1.far6 (by omega) _ _ _ _ _ _, below_set6 hB gq _ _ _ _ _ _⟩
  case rest =>
    obtain ⟨q2, rfl, g2, b2, b0, b1, hB⟩ := hcut
    clear hB0
    have hB0 := hB
    have c0 := b0.cell
    have f0 := b0.frozen
    have l0 := b0.lt
    have c1 := b1.cell
    have f1 := b1.frozen
    have l1 := b1.lt
    have c2 := b2.cell
    have f2 := b2.frozen
    have l2 := b2.lt
    go_upto_region 2 with fail
    go_cut [6] (fun s wx => ∃ q : Nat, s = .pointer (some ⟨q, 0, none⟩) ∧ w.heap.size + 1 < q ∧ Blk wx q 28 #[.int .i64 (mnZ (cl pa) (cl qa)), .int .i64 (mnZ (cl pb) (cl qb)), .int .i64 (mnZ (cl pc) (cl qc)), .int .i64 (mxZ (cl pd) (cl qd)), .int .i64 (mxZ (cl pe) (cl qe)), .int .i64 (mxZ (cl pf) (cl qf))] ∧ Blk wx w.heap.size 25 #[.int .i64 (pa), .int .i64 (pb), .int .i64 (pc), .int .i64 (pd), .int .i64 (pe), .int .i64 (pf)] ∧ Blk wx (w.heap.size + 1) 25 #[.int .i64 (qa), .int .i64 (qb), .int .i64 (qc), .int .i64 (qd), .int .i64 (qe), .int .i64 (qf)] ∧ Blk wx q2 28 #[.int .i64 (mnZ (cl pa) (cl qa)), .int .i64 (mnZ (cl pb) (cl qb)), .int .i64 (mnZ (cl pc) (cl qc)), .int .i64 (mxZ (cl pd) (cl qd)), .int .i64 (mxZ (cl pe) (cl qe)), .int .i64 (mxZ (cl pf) (cl qf))] ∧ Below w.heap.size w wx)
    case first =>
      go_region_held3 (fun w' => (∀ i, w'.cell? ⟨w.heap.size, i, none⟩ = (#[.int .i64 (pa), .int .i64 (pb), .int .i64 (pc), .int .i64 (pd), .int .i64 (pe), .int .i64 (pf)] : Array Value)[i]?) ∧ (∀ i, w'.cell? ⟨w.heap.size + 1, i, none⟩ = (#[.int .i64 (qa), .int .i64 (qb), .int .i64 (qc), .int .i64 (qd), .int .i64 (qe), .int .i64 (qf)] : Array Value)[i]?)) (first | with_reducible exact ⟨b0.cell, b1.cell⟩ | with_reducible exact ⟨b0.drew.cell, b1.drew.cell⟩ | with_reducible exact ⟨(b0.alloc _).cell, (b1.alloc _).cell⟩ | with_reducible exact ⟨(b0.alloc _).drew.cell, (b1.alloc _).drew.cell⟩ | with_reducible exact ⟨(b0.far6 (by omega) _ _ _ _ _ _).cell, (b1.far6 (by omega) _ _ _ _ _ _).cell⟩ | with_reducible exact ⟨(b0.far6 (by omega) _ _ _ _ _ _).drew.cell, (b1.far6 (by omega) _ _ _ _ _ _).drew.cell⟩)
        (first
          | (go_at_call 15; refine (toBox_any _ _ _ _ _ _ _).mono ?_; rintro e w1 ⟨rfl, hb⟩; (first | (replace bn := bn.keep hb) | (have bn : Blk w1 _ 28 #[.int .i64 (0), .int .i64 (0), .int .i64 (0), .int .i64 (0), .int .i64 (0), .int .i64 (0)] := (by with_reducible first | exact Blk.keep hb (Blk.new _ _ _) | exact Blk.keep hb (Blk.new _ _ _).drew); have gq0 := b0.lt; have gq1 := b1.lt; have gq2 := b2.lt; have gq := hB.size) | skip); (first | (have cn := bn.cell; have fn := bn.frozen; have ln := bn.lt) | skip); replace hB := (by with_reducible first | exact b_keep hb hB | exact b_keep hb hB.drew | exact b_keep hb (hB.alloc hB.size _) | exact b_keep hb (hB.alloc hB.size _).drew); replace b0 : Blk w1 _ _ _ := (by with_reducible first | exact Blk.keep hb b0 | exact Blk.keep hb b0.drew | exact Blk.keep hb (b0.alloc _) | exact Blk.keep hb (b0.alloc _).drew); replace b1 : Blk w1 _ _ _ := (by with_reducible first | exact Blk.keep hb b1 | exact Blk.keep hb b1.drew | exact Blk.keep hb (b1.alloc _) | exact Blk.keep hb (b1.alloc _).drew); replace b2 : Blk w1 _ _ _ := (by with_reducible first | exact Blk.keep hb b2 | exact Blk.keep hb b2.drew | exact Blk.keep hb (b2.alloc _) | exact Blk.keep hb (b2.alloc _).drew); replace l0 := b0.lt; replace c0 := b0.cell; replace f0 := b0.frozen; replace l1 := b1.lt; replace c1 := b1.cell; replace f1 := b1.frozen; replace l2 := b2.lt; replace c2 := b2.cell; replace f2 := b2.frozen)
          | (go_at_call 19; refine (unionI pa pb pc pd pe pf qa qb qc qd qe qf _).mono ?_; rintro e w1 ⟨rfl, hb⟩; (first | (replace bn := bn.keep hb) | (have bn : Blk w1 _ 28 #[.int .i64 (0), .int .i64 (0), .int .i64 (0), .int .i64 (0), .int .i64 (0), .int .i64 (0)] := (by with_reducible first | exact Blk.keep hb (Blk.new _ _ _) | exact Blk.keep hb (Blk.new _ _ _).drew); have gq0 := b0.lt; have gq1 := b1.lt; have gq2 := b2.lt; have gq := hB.size) | skip); (first | (have cn := bn.cell; have fn := bn.frozen; have ln := bn.lt) | skip); replace hB := (by with_reducible first | exact b_keep hb hB | exact b_keep hb hB.drew | exact b_keep hb (hB.alloc hB.size _) | exact b_keep hb (hB.alloc hB.size _).drew); replace b0 : Blk w1 _ _ _ := (by with_reducible first | exact Blk.keep hb b0 | exact Blk.keep hb b0.drew | exact Blk.keep hb (b0.alloc _) | exact Blk.keep hb (b0.alloc _).drew); replace b1 : Blk w1 _ _ _ := (by with_reducible first | exact Blk.keep hb b1 | exact Blk.keep hb b1.drew | exact Blk.keep hb (b1.alloc _) | exact Blk.keep hb (b1.alloc _).drew); replace b2 : Blk w1 _ _ _ := (by with_reducible first | exact Blk.keep hb b2 | exact Blk.keep hb b2.drew | exact Blk.keep hb (b2.alloc _) | exact Blk.keep hb (b2.alloc _).drew); replace l0 := b0.lt; replace c0 := b0.cell; replace f0 := b0.frozen; replace l1 := b1.lt; replace c1 := b1.cell; replace f1 := b1.frozen; replace l2 := b2.lt; replace c2 := b2.cell; replace f2 := b2.frozen))
      all_goals
        go_wp2_with fail
        go_meet
        first
          | with_reducible exact ⟨_, rfl, b1.lt, Blk.new _ _ _, b0.alloc _, b1.alloc _, b2.alloc _, hB.alloc hB.size _⟩
          | exact ⟨_, rfl, gq1, bn.set6 _ _ _ _ _ _, b0.far6 (by omega) _ _ _ _ _ _, b1.far6 (by omega) _ _ _ _ _ _, b2.far6 (by omega) _ _ _ _ _ _, below_set6 hB gq _ _ _ _ _ _⟩
    case rest =>
      obtain ⟨q3, rfl, g3, b3, b0, b1, b2, hB⟩ := hcut
      clear hB0
      have hB0 := hB
      have c0 := b0.cell
      have f0 := b0.frozen
      have l0 := b0.lt
      have c1 := b1.cell
      have f1 := b1.frozen
      have l1 := b1.lt
      have c2 := b2.cell
      have f2 := b2.frozen
      have l2 := b2.lt
      have c3 := b3.cell
      have f3 := b3.frozen
      have l3 := b3.lt
      go_wp2_with fail
      refine (eqBox_same _ _ _ _ _ _ _).mono ?_
      rintro r w2 ⟨rfl, hb⟩
      replace hB := b_keep hb hB
      clear c0 c1 c2 c3 f0 f1 f2 f3 l0 l1 l2 l3 b0 b1 b2 b3 hb
      go_wp2
      go_ret
      exact ⟨rfl, hB⟩

set_option maxRecDepth 100000 in
theorem FnExactUnionBox_run {H : Type} {enc : TypeId × Value → H} (W : World) (base : Nat) (args : Array Value) (ds : List (DataW H)) (p : List MemPlace)
    (hl : args.toList.length = Try.f4.params.toList.length)
    (hval : ∀ (j : Nat) t v, Try.f4.params[j]? = some t → args[j]? = some v → Value.okWide Try.prog W .any base t v)
    (_ : DataW.TrodAll enc Try.prog W 0 (fun _ => true) true Try.f4.params.toList args.toList ds p) :
    Calls Try.prog 4 args W fun e w' => e = .returned (.bool true) ∧ Below W.heap.size W w' := by
  rw [Try.params4] at hl hval
  obtain ⟨v0, v1, rfl⟩ := Fr.arr2 hl
  obtain ⟨pa, pb, pc, pd, pe, pf, rfl⟩ := open_box (hval 0 25 v0 rfl rfl)
  obtain ⟨qa, qb, qc, qd, qe, qf, rfl⟩ := open_box (hval 1 25 v1 rfl rfl)
  exact lawUnionBox pa pb pc pd pe pf qa qb qc qd qe qf W

set_option maxRecDepth 100000 in
theorem FnExactUnionBox_lifted (os : Os) (started : os.Started) (H : Type) (enc : TypeId × Value → H) :
    ReturnsInHanded {} Try.checked os 4 .any (Rows.fnExactUnionBoxSpec.pre6 enc Try.prog Try.f4 Rows.fnExactUnionBoxRow.domain false) (Rows.fnExactUnionBoxSpec.post enc Try.prog Try.f4 false true false false) := by
  refine returnsInHanded_of_change (C := Try.checked) own started (by kernel_rfl) Try.func4
    (ChangeSpec.witness6 (enc := enc) (C := Try.checked) false ⟨#[], #[.agg #[.int .i64 (0), .int .i64 (0), .int .i64 (0), .int .i64 (0), .int .i64 (0), .int .i64 (0)], .agg #[.int .i64 (0), .int .i64 (0), .int .i64 (0), .int .i64 (0), .int .i64 (0), .int .i64 (0)]], []⟩ 8 (by kernel_rfl) (by kernel_rfl) (by kernel_rfl) (by kernel_rfl)) ?_
  intro W base args ds gs before hval hW _ _
  exact Fr.contract (P := Try.prog) (tb := 4) laidOut (by kernel_rfl) rfl rfl (by kernel_rfl) (fun ds hl => by match ds, hl with | [_, _], _ => rfl) FnExactUnionBox_run W base args ds gs before hval hW

theorem FnExactUnionBox_holds : Rows.FnExactUnionBoxSaid :=
  OpenClaim.holds_of_wide 4 Try.f4 rfl rfl rfl rfl rfl rfl rfl ⟨rfl, rfl, rfl, rfl, rfl⟩ rfl rfl rfl rfl rfl (by kernel_rfl) Try.func4 (by kernel_rfl)
    (of_decide_eq_true (by kernel_rfl)) (by unfold Func.isWrapper; first | (rw [if_pos (by decide +kernel)]; kernel_rfl) | (rw [if_neg (by decide +kernel)]; exact ⟨rfl, rfl⟩))
    (fun os started H enc _ => FnExactUnionBox_lifted os started H enc)
#print axioms FnExactUnionBox_holds
end Go.Proofs.Ytobfccoljijnkaa
