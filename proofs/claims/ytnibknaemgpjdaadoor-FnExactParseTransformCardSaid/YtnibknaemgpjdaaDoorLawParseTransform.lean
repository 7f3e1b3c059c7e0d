/- ParseTransform: the program's function and the reference's give the same answer, for all texts. No condition. -/
import Derived.Test.YtnibknaemgpjdaaDoorBaseS
import Derived.Test.YtnibknaemgpjdaaDoorTrfS
import Derived.Test.YtnibknaemgpjdaaDoorIdent4
namespace Go.Proofs.YtnibknaemgpjdaaDoor
open Go.ChangeShapes Go.WideShapes Go.ChangeAt Go.RowKit
open Go.ChangeMaps (open_string)

theorem trV_form (l : List UInt8) : ∃ (ms : List Int) (v : V3) (b : Bool), trV l = .tuple #[.agg (cellsT ms v), .bool b] := by
  unfold trV
  split
  · exact ⟨_, _, _, rfl⟩
  · exact ⟨_, _, _, rfl⟩
theorem eqTr (ms : List Int) (v : V3) (w : World) : Calls Tryd.prog 13 #[.agg (cellsT ms v), .agg (cellsT ms v)] w fun r w' => r = .returned (.bool true) ∧ Below w.heap.size w w' := eqTransform_same _ _ _ _ _ _ _ _ _ _ _ _ w
set_option maxHeartbeats 4000000 in
set_option maxRecDepth 100000 in
theorem lawParseTransform (s : ByteArray) (hs : s.size ≤ maxLen) (w : World) (hT : Tab w) (hE : Errs w) (hM : MaxL w) :
    Calls Tryd.prog 4 #[.string s] w fun e w' => e = .returned (.bool true) ∧ Below w.heap.size w w' := by
  unfold maxLen at hs
  by_cases hbig : 1048576 < (s.size : Int)
  · clear hT hE hM
    go_enter Tryd.func4, Tryd.ntmps4
    go_wp2
    go_ret
    exact ⟨rfl, Below.refl _ _⟩
  have hs1 : s.size ≤ 1048576 := by omega
  obtain ⟨ms, v, b, hx⟩ := trV_form s.data.toList
  have HT := Lib.hid hT
  have HE := Lib.hid hE
  have HM := Lib.hid hM
  have HS := Lib.hid (parTrS s hs1 w)
  have HI : ∀ w', Below w.heap.size w w' → Hid (Calls Tryd.prog 12 #[.string s] w' (TrRes s w')) := fun w' hb => parTrI s hs1 w' (HT.out.keep hb) (HE.out.keep hb) (HM.out.keep hb)
  unfold TrRes at HS HI
  rw [hx] at HS HI
  have HQ := Lib.hid (fun W => eqTr ms v W)
  clear hx hT hE hM
  unfold cellsT at HS HI HQ
  go_enter Tryd.func4, Tryd.ntmps4
  go_wp2_with fail
  refine HS.out.mono ?_
  rintro e w1 ⟨rfl, hB⟩
  have b0 := Blk.new w1 33 #[.int .i64 ((mAt ms 0)), .int .i64 ((mAt ms 1)), .int .i64 ((mAt ms 2)), .int .i64 ((mAt ms 3)), .int .i64 ((mAt ms 4)), .int .i64 ((mAt ms 5)), .int .i64 ((mAt ms 6)), .int .i64 ((mAt ms 7)), .int .i64 ((mAt ms 8)), .int .i64 (v.1), .int .i64 (v.2.1), .int .i64 (v.2.2)]
  have hB1 := hB.alloc hB.size (.cells #[.int .i64 ((mAt ms 0)), .int .i64 ((mAt ms 1)), .int .i64 ((mAt ms 2)), .int .i64 ((mAt ms 3)), .int .i64 ((mAt ms 4)), .int .i64 ((mAt ms 5)), .int .i64 ((mAt ms 6)), .int .i64 ((mAt ms 7)), .int .i64 ((mAt ms 8)), .int .i64 (v.1), .int .i64 (v.2.1), .int .i64 (v.2.2)] 33)
  have HC := HI _ hB1
  go_wp2_with fail
  obtain ⟨q, hq⟩ : ∃ q, w1.heap.size = q := ⟨_, rfl⟩
  rw [hq] at b0 ⊢
  clear hq hB
  generalize w1.alloc (.cells #[.int .i64 ((mAt ms 0)), .int .i64 ((mAt ms 1)), .int .i64 ((mAt ms 2)), .int .i64 ((mAt ms 3)), .int .i64 ((mAt ms 4)), .int .i64 ((mAt ms 5)), .int .i64 ((mAt ms 6)), .int .i64 ((mAt ms 7)), .int .i64 ((mAt ms 8)), .int .i64 (v.1), .int .i64 (v.2.1), .int .i64 (v.2.2)] 33) = W1 at hB1 b0 HC ⊢
  refine HC.out.mono ?_
  rintro e w2 ⟨rfl, hb⟩
  replace b0 : Blk w2 _ _ _ := Blk.keep hb b0
  have hB2 := b_keep hb hB1
  have c0 := b0.cell
  have f0 := b0.frozen
  have l0 := b0.lt
  have hB3 := hB2.alloc hB2.size (.cells #[.int .i64 ((mAt ms 0)), .int .i64 ((mAt ms 1)), .int .i64 ((mAt ms 2)), .int .i64 ((mAt ms 3)), .int .i64 ((mAt ms 4)), .int .i64 ((mAt ms 5)), .int .i64 ((mAt ms 6)), .int .i64 ((mAt ms 7)), .int .i64 ((mAt ms 8)), .int .i64 (v.1), .int .i64 (v.2.1), .int .i64 (v.2.2)] 33)
  clear hb hB1 HC HI
  go_wp2_with fail
  refine (HQ.out _).mono ?_
  rintro e w3 ⟨rfl, hb⟩
  have hB := b_keep hb hB3
  clear hb hB2 hB3 b0 c0 f0 l0
  cases b
  all_goals
    go_wp2
    go_ret
    exact ⟨rfl, hB⟩

set_option maxRecDepth 100000 in
theorem FnExactParseTransform_run {H : Type} {enc : TypeId × Value → H} (W : World) (base : Nat) (args : Array Value) (ds : List (DataW H)) (p : List MemPlace)
    (hL : laidMetH Tryd.prog laid5 W) (hSh : W.ShapedOpen Tryd.prog) (hl : args.toList.length = Tryd.f4.params.toList.length)
    (hval : ∀ (j : Nat) t v, Tryd.f4.params[j]? = some t → args[j]? = some v → Value.okWide Tryd.prog W .any base t v)
    (hA : DataW.TrodAll enc Tryd.prog W 0 (fun _ => true) true Tryd.f4.params.toList args.toList ds p) :
    Calls Tryd.prog 4 args W fun e w' => e = .returned (.bool true) ∧ Below W.heap.size W w' := by
  rw [Tryd.params4] at hl hval hA
  obtain ⟨v0, d0, rfl, rfl, h0⟩ := trodAll_one hA
  obtain ⟨s, rfl, rfl, rfl, hs⟩ := open_string Tryd.underlying9 (hval 0 9 v0 rfl rfl) h0
  exact lawParseTransform s hs W (tab_of5 hL) (errs_of5 hL) (maxLen_of hSh)

set_option maxRecDepth 100000 in
theorem FnExactParseTransform_lifted (os : Os) (started : os.Started) (H : Type) (enc : TypeId × Value → H) :
    ReturnsInHanded {} Tryd.checked os 4 .any (fun w args => (Rows.fnExactParseTransformSpec.pre enc Tryd.prog Tryd.f4 [] false w args ∧ laidMetH Tryd.prog laid5 w) ∧ sizedMet enc Tryd.prog Tryd.f4 (OpenSpec.ofChange Rows.fnExactParseTransformSpec) false w args)
      (Rows.fnExactParseTransformSpec.post enc Tryd.prog Tryd.f4 false true false false) := by
  refine returnsInHanded_of_change_and_shaped (C := Tryd.checked) (X := fun w _ => laidMetH Tryd.prog laid5 w) (fun _ _ _ hh h => h.of_heap hh) own started (by kernel_rfl) Tryd.func4
    (ChangeSpec.witness_shaped (enc := enc) (C := Tryd.checked) (os := os) (X := fun w _ => laidMetH Tryd.prog laid5 w) false (World.doorLaid Tryd.prog 62 os) #[.string ByteArray.empty] 8 rfl (World.shaped_of_RefB (by kernel_rfl) (by kernel_rfl)) (by kernel_rfl) (by kernel_rfl) (by kernel_rfl) (door5_met os _)) ?_
  intro W base args ds gs before hval hW _ _ hL hSh _
  exact Fr.contractAt (P := Tryd.prog) (tb := 4) laidOut (by kernel_rfl) rfl rfl (by kernel_rfl) (fun ds hl => by match ds, hl with | [_], _ => rfl) W base args (fun ds p => FnExactParseTransform_run W base args ds p hL hSh) ds gs before hval hW

theorem FnExactParseTransform_row : Rows.FnExactParseTransformSaid :=
  OpenClaim.holds_of_wide 4 Tryd.f4 rfl rfl rfl rfl rfl rfl rfl ⟨rfl, rfl, rfl, rfl, rfl⟩ rfl rfl rfl rfl rfl (by kernel_rfl) Tryd.func4 (by kernel_rfl)
    (of_decide_eq_true (by kernel_rfl)) (by unfold Func.isWrapper; first | (rw [if_pos (by decide +kernel)]; kernel_rfl) | (rw [if_neg (by decide +kernel)]; exact ⟨rfl, rfl⟩))
    (fun os started H enc _ => FnExactParseTransform_lifted os started H enc)

theorem FnExactParseTransform_holds : Rows.FnExactParseTransformCardSaid :=
  Claim7.holds_tied_plain_at .later [] _ true _ _ FnExactParseTransform_row (fun _ h => by cases h) (by kernel_rfl) (fun _ h => by cases h) fnExactParseTransform_row_tie rfl ⟨rfl, rfl⟩ (by kernel_rfl) rfl
    (fun f fn hf hfn => by
      obtain rfl : f = 4 := Option.some.inj ((show Tryd.prog.funcNamed Rows.fnExactParseTransformRow.func = some 4 by kernel_rfl).symm.trans hf) |>.symm
      obtain rfl : fn = Tryd.f4 := (Option.some.inj (Tryd.func4.symm.trans hfn)).symm
      exact ⟨by kernel_rfl, fun j t ht => by
        have hm : t ∈ Tryd.f4.params.toList := by simpa using Array.mem_of_getElem? ht
        have hall : (Tryd.f4.params.toList.all fun u => !Tryd.prog.wantsStandIn u) = true := by kernel_rfl
        exact (show Tryd.prog.wantsStandIn t = false by simpa using List.all_eq_true.1 hall t hm)⟩)
    (by kernel_rfl)
#print axioms FnExactParseTransform_holds
end Go.Proofs.YtnibknaemgpjdaaDoor
