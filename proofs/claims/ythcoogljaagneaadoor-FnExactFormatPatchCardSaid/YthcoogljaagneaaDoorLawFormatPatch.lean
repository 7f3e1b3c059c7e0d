/- FormatPatch: the program's function and the reference's give the same text, for all arguments. No condition. -/
import Derived.Test.YthcoogljaagneaaDoorBaseL
import Derived.Test.YthcoogljaagneaaDoorOpen
import Derived.Test.YthcoogljaagneaaDoorFmtX
namespace Go.Proofs.YthcoogljaagneaaDoor
open Go.ChangeShapes Go.WideShapes Go.ChangeAt Go.RowKit

set_option maxHeartbeats 2000000 in
theorem lawFormatPatch (pa pb pc pd pe pf pg ph pi pj pk pl : Int) (w : World) (hT : Tab w) :
    Calls Tryd.prog 8 #[.agg #[.int .i64 (pa), .int .i64 (pb), .int .i64 (pc), .int .i64 (pd), .int .i64 (pe), .int .i64 (pf), .int .i64 (pg), .int .i64 (ph), .int .i64 (pi), .int .i64 (pj), .int .i64 (pk), .int .i64 (pl)]] w fun e w' => e = .returned (.bool true) ∧ Below w.heap.size w w' := by
  have hB := below1 w (.cells #[.int .i64 (pa), .int .i64 (pb), .int .i64 (pc), .int .i64 (pd), .int .i64 (pe), .int .i64 (pf), .int .i64 (pg), .int .i64 (ph), .int .i64 (pi), .int .i64 (pj), .int .i64 (pk), .int .i64 (pl)] 52)
  have b0 := Blk.new w 52 #[.int .i64 (pa), .int .i64 (pb), .int .i64 (pc), .int .i64 (pd), .int .i64 (pe), .int .i64 (pf), .int .i64 (pg), .int .i64 (ph), .int .i64 (pi), .int .i64 (pj), .int .i64 (pk), .int .i64 (pl)]
  have HT := Lib.hid hT
  clear hT
  go_enter Tryd.func8, Tryd.ntmps8
  go_wp2_with fail
  generalize w.alloc (.cells #[.int .i64 (pa), .int .i64 (pb), .int .i64 (pc), .int .i64 (pd), .int .i64 (pe), .int .i64 (pf), .int .i64 (pg), .int .i64 (ph), .int .i64 (pi), .int .i64 (pj), .int .i64 (pk), .int .i64 (pl)] 52) = W0 at hB b0 ⊢
  have c0 := b0.cell
  have f0 := b0.frozen
  have l0 := b0.lt
  refine (toPatch_any pa pb pc pd pe pf pg ph pi pj pk pl _).mono ?_
  rintro e w1 ⟨rfl, hb⟩
  have hB := (by with_reducible first | exact b_keep hb hB | exact b_keep hb hB.drew)
  replace b0 : Blk w1 _ _ _ := (by with_reducible first | exact Blk.keep hb b0 | exact Blk.keep hb b0.drew)
  replace l0 := b0.lt
  replace c0 := b0.cell
  replace f0 := b0.frozen
  clear hb
  go_wp2_with fail
  refine (fmtPatchS pa pb pc pd pe pf pg ph pi pj pk pl _).mono ?_
  rintro e w1 ⟨rfl, hb⟩
  have hB := (by with_reducible first | exact b_keep hb hB | exact b_keep hb hB.drew)
  replace b0 : Blk w1 _ _ _ := (by with_reducible first | exact Blk.keep hb b0 | exact Blk.keep hb b0.drew)
  replace l0 := b0.lt
  replace c0 := b0.cell
  replace f0 := b0.frozen
  clear hb
  go_wp2_with fail
  refine (toPatch_any pa pb pc pd pe pf pg ph pi pj pk pl _).mono ?_
  rintro e w1 ⟨rfl, hb⟩
  have hB := (by with_reducible first | exact b_keep hb hB | exact b_keep hb hB.drew)
  replace b0 : Blk w1 _ _ _ := (by with_reducible first | exact Blk.keep hb b0 | exact Blk.keep hb b0.drew)
  replace l0 := b0.lt
  replace c0 := b0.cell
  replace f0 := b0.frozen
  clear hb
  have HT1 := Lib.hid (HT.out.keep hB)
  go_wp2_with fail
  refine (fmtPatchI pa pb pc pd pe pf pg ph pi pj pk pl _ HT1.out).mono ?_
  rintro e w1 ⟨rfl, hb⟩
  have hB := (by with_reducible first | exact b_keep hb hB | exact b_keep hb hB.drew)
  replace b0 : Blk w1 _ _ _ := (by with_reducible first | exact Blk.keep hb b0 | exact Blk.keep hb b0.drew)
  replace l0 := b0.lt
  replace c0 := b0.cell
  replace f0 := b0.frozen
  clear hb
  clear b0 c0 f0 l0
  go_wp2
  go_ret
  exact ⟨rfl, hB⟩

set_option maxRecDepth 100000 in
theorem FnExactFormatPatch_run {H : Type} {enc : TypeId × Value → H} (W : World) (base : Nat) (args : Array Value) (ds : List (DataW H)) (p : List MemPlace)
    (hL : laidMetH Tryd.prog laid3 W) (hl : args.toList.length = Tryd.f8.params.toList.length)
    (hval : ∀ (j : Nat) t v, Tryd.f8.params[j]? = some t → args[j]? = some v → Value.okWide Tryd.prog W .any base t v)
    (_ : DataW.TrodAll enc Tryd.prog W 0 (fun _ => true) true Tryd.f8.params.toList args.toList ds p) :
    Calls Tryd.prog 8 args W fun e w' => e = .returned (.bool true) ∧ Below W.heap.size W w' := by
  rw [Tryd.params8] at hl hval
  obtain ⟨v0, rfl⟩ := Fr.arr1 hl
  obtain ⟨pa, pb, pc, pd, pe, pf, pg, ph, pi, pj, pk, pl, rfl⟩ := open_patch (hval 0 52 v0 rfl rfl)
  exact lawFormatPatch pa pb pc pd pe pf pg ph pi pj pk pl W (tab_of3 hL)

set_option maxRecDepth 100000 in
theorem FnExactFormatPatch_lifted (os : Os) (started : os.Started) (H : Type) (enc : TypeId × Value → H) :
    ReturnsInHanded {} Tryd.checked os 8 .any (fun w args => (Rows.fnExactFormatPatchSpec.pre enc Tryd.prog Tryd.f8 [] false w args ∧ laidMetH Tryd.prog laid3 w) ∧ sizedMet enc Tryd.prog Tryd.f8 (OpenSpec.ofChange Rows.fnExactFormatPatchSpec) false w args)
      (Rows.fnExactFormatPatchSpec.post enc Tryd.prog Tryd.f8 false true false false) := by
  refine returnsInHanded_of_change_and (C := Tryd.checked) (X := fun w _ => laidMetH Tryd.prog laid3 w) (fun _ _ _ hh h => h.of_heap hh) own started (by kernel_rfl) Tryd.func8
    (ChangeSpec.witness_shaped (enc := enc) (C := Tryd.checked) (os := os) (X := fun w _ => laidMetH Tryd.prog laid3 w) false (World.doorLaid Tryd.prog 62 os) #[.agg #[.int .i64 (0), .int .i64 (0), .int .i64 (0), .int .i64 (0), .int .i64 (0), .int .i64 (0), .int .i64 (0), .int .i64 (0), .int .i64 (0), .int .i64 (0), .int .i64 (0), .int .i64 (0)]] 8 rfl (World.shaped_of_RefB (by kernel_rfl) (by kernel_rfl)) (by kernel_rfl) (by kernel_rfl) (by kernel_rfl) (door3_met os _)) ?_
  intro W base args ds gs before hval hW _ _ hL _
  exact Fr.contractAt (P := Tryd.prog) (tb := 4) laidOut (by kernel_rfl) rfl rfl (by kernel_rfl) (fun ds hl => by match ds, hl with | [_], _ => rfl) W base args (fun ds p => FnExactFormatPatch_run W base args ds p hL) ds gs before hval hW

theorem FnExactFormatPatch_row : Rows.FnExactFormatPatchSaid :=
  OpenClaim.holds_of_wide 8 Tryd.f8 rfl rfl rfl rfl rfl rfl rfl ⟨rfl, rfl, rfl, rfl, rfl⟩ rfl rfl rfl rfl rfl (by kernel_rfl) Tryd.func8 (by kernel_rfl)
    (of_decide_eq_true (by kernel_rfl)) (by unfold Func.isWrapper; first | (rw [if_pos (by decide +kernel)]; kernel_rfl) | (rw [if_neg (by decide +kernel)]; exact ⟨rfl, rfl⟩))
    (fun os started H enc _ => FnExactFormatPatch_lifted os started H enc)

theorem FnExactFormatPatch_holds : Rows.FnExactFormatPatchCardSaid :=
  Claim7.holds_tied_plain_at .later [] _ true _ _ FnExactFormatPatch_row (fun _ h => by cases h) (by kernel_rfl) (fun _ h => by cases h) fnExactFormatPatch_row_tie rfl ⟨rfl, rfl⟩ (by kernel_rfl) rfl
    (fun f fn hf hfn => by
      obtain rfl : f = 8 := Option.some.inj ((show Tryd.prog.funcNamed Rows.fnExactFormatPatchRow.func = some 8 by kernel_rfl).symm.trans hf) |>.symm
      obtain rfl : fn = Tryd.f8 := (Option.some.inj (Tryd.func8.symm.trans hfn)).symm
      exact ⟨by kernel_rfl, fun j t ht => by
        have hm : t ∈ Tryd.f8.params.toList := by simpa using Array.mem_of_getElem? ht
        have hall : (Tryd.f8.params.toList.all fun u => !Tryd.prog.wantsStandIn u) = true := by kernel_rfl
        exact (show Tryd.prog.wantsStandIn t = false by simpa using List.all_eq_true.1 hall t hm)⟩)
    (by kernel_rfl)
#print axioms FnExactFormatPatch_holds
end Go.Proofs.YthcoogljaagneaaDoor
