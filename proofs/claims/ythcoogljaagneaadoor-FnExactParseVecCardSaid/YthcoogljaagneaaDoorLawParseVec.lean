/- ParseVec: the program's function and the reference's give the same answer, for all texts. No condition. -/
import Derived.Test.YthcoogljaagneaaDoorBaseL5
import Derived.Test.YthcoogljaagneaaDoorParV
namespace Go.Proofs.YthcoogljaagneaaDoor
open Go.ChangeShapes Go.WideShapes Go.ChangeAt Go.RowKit
open Go.ChangeMaps (open_string)

theorem vecV_form (l : List UInt8) : ∃ (x y z : Int) (b : Bool), vecV l = .tuple #[.agg #[.int .i64 (x), .int .i64 (y), .int .i64 (z)], .bool b] := by
  unfold vecV
  split
  · exact ⟨_, _, _, _, rfl⟩
  · exact ⟨_, _, _, _, rfl⟩
set_option maxHeartbeats 1000000 in
theorem lawParseVec (s : ByteArray) (hs : s.size ≤ maxLen) (w : World) (hT : Tab w) (hE : Errs w) :
    Calls Tryd.prog 11 #[.string s] w fun e w' => e = .returned (.bool true) ∧ Below w.heap.size w w' := by
  unfold maxLen at hs
  by_cases hbig : 1048576 < (s.size : Int)
  · clear hT hE
    go_enter Tryd.func11, Tryd.ntmps11
    go_wp2
    go_ret
    exact ⟨rfl, Below.refl _ _⟩
  have hs1 : s.size ≤ 1048576 := by omega
  obtain ⟨x, y, z, b, hx⟩ := vecV_form s.data.toList
  have HT := Lib.hid hT
  have HE := Lib.hid hE
  have HS := Lib.hid (parVecS s hs1 w)
  have HI : ∀ w', Below w.heap.size w w' → Hid (Calls Tryd.prog 37 #[.string s] w' (VecPRes s w')) := fun w' hb => parVecI s hs1 w' (HT.out.keep hb) (HE.out.keep hb)
  unfold VecPRes at HS HI
  rw [hx] at HS HI
  clear hx hT hE
  go_enter Tryd.func11, Tryd.ntmps11
  go_wp2_with fail
  refine HS.out.mono ?_
  rintro e w1 ⟨rfl, hB⟩
  have b0 := Blk.new w1 32 #[.int .i64 (x), .int .i64 (y), .int .i64 (z)]
  have hB1 := hB.alloc hB.size (.cells #[.int .i64 (x), .int .i64 (y), .int .i64 (z)] 32)
  have HC := HI _ hB1
  go_wp2_with fail
  obtain ⟨q, hq⟩ : ∃ q, w1.heap.size = q := ⟨_, rfl⟩
  rw [hq] at b0 ⊢
  clear hq hB
  generalize w1.alloc (.cells #[.int .i64 (x), .int .i64 (y), .int .i64 (z)] 32) = W1 at hB1 b0 HC ⊢
  refine HC.out.mono ?_
  rintro e w2 ⟨rfl, hb⟩
  replace b0 : Blk w2 _ _ _ := Blk.keep hb b0
  have hB2 := b_keep hb hB1
  have c0 := b0.cell
  have f0 := b0.frozen
  have l0 := b0.lt
  have hB3 := hB2.alloc hB2.size (.cells #[.int .i64 (x), .int .i64 (y), .int .i64 (z)] 32)
  clear hb hB1 HC HI
  go_wp2_with fail
  refine (eqVec_same x y z _).mono ?_
  rintro e w3 ⟨rfl, hb⟩
  have hB := b_keep hb hB3
  clear hb hB2 hB3 b0 c0 f0 l0
  cases b
  all_goals
    go_wp2
    go_ret
    exact ⟨rfl, hB⟩

set_option maxRecDepth 100000 in
theorem FnExactParseVec_run {H : Type} {enc : TypeId × Value → H} (W : World) (base : Nat) (args : Array Value) (ds : List (DataW H)) (p : List MemPlace)
    (hL : laidMetH Tryd.prog laid5 W) (hl : args.toList.length = Tryd.f11.params.toList.length)
    (hval : ∀ (j : Nat) t v, Tryd.f11.params[j]? = some t → args[j]? = some v → Value.okWide Tryd.prog W .any base t v)
    (hA : DataW.TrodAll enc Tryd.prog W 0 (fun _ => true) true Tryd.f11.params.toList args.toList ds p) :
    Calls Tryd.prog 11 args W fun e w' => e = .returned (.bool true) ∧ Below W.heap.size W w' := by
  rw [Tryd.params11] at hl hval hA
  obtain ⟨v0, d0, rfl, rfl, h0⟩ := trodAll_one hA
  obtain ⟨s, rfl, rfl, rfl, hs⟩ := open_string Tryd.underlying9 (hval 0 9 v0 rfl rfl) h0
  exact lawParseVec s hs W (tab_of5 hL) (errs_of5 hL)

set_option maxRecDepth 100000 in
theorem FnExactParseVec_lifted (os : Os) (started : os.Started) (H : Type) (enc : TypeId × Value → H) :
    ReturnsInHanded {} Tryd.checked os 11 .any (fun w args => (Rows.fnExactParseVecSpec.pre enc Tryd.prog Tryd.f11 [] false w args ∧ laidMetH Tryd.prog laid5 w) ∧ sizedMet enc Tryd.prog Tryd.f11 (OpenSpec.ofChange Rows.fnExactParseVecSpec) false w args)
      (Rows.fnExactParseVecSpec.post enc Tryd.prog Tryd.f11 false true false false) := by
  refine returnsInHanded_of_change_and (C := Tryd.checked) (X := fun w _ => laidMetH Tryd.prog laid5 w) (fun _ _ _ hh h => h.of_heap hh) own started (by kernel_rfl) Tryd.func11
    (ChangeSpec.witness_shaped (enc := enc) (C := Tryd.checked) (os := os) (X := fun w _ => laidMetH Tryd.prog laid5 w) false (World.doorLaid Tryd.prog 62 os) #[.string ByteArray.empty] 8 rfl (World.shaped_of_RefB (by kernel_rfl) (by kernel_rfl)) (by kernel_rfl) (by kernel_rfl) (by kernel_rfl) (door5_met os _)) ?_
  intro W base args ds gs before hval hW _ _ hL _
  exact Fr.contractAt (P := Tryd.prog) (tb := 4) laidOut (by kernel_rfl) rfl rfl (by kernel_rfl) (fun ds hl => by match ds, hl with | [_], _ => rfl) W base args (fun ds p => FnExactParseVec_run W base args ds p hL) ds gs before hval hW

theorem FnExactParseVec_row : Rows.FnExactParseVecSaid :=
  OpenClaim.holds_of_wide 11 Tryd.f11 rfl rfl rfl rfl rfl rfl rfl ⟨rfl, rfl, rfl, rfl, rfl⟩ rfl rfl rfl rfl rfl (by kernel_rfl) Tryd.func11 (by kernel_rfl)
    (of_decide_eq_true (by kernel_rfl)) (by unfold Func.isWrapper; first | (rw [if_pos (by decide +kernel)]; kernel_rfl) | (rw [if_neg (by decide +kernel)]; exact ⟨rfl, rfl⟩))
    (fun os started H enc _ => FnExactParseVec_lifted os started H enc)

theorem FnExactParseVec_holds : Rows.FnExactParseVecCardSaid :=
  Claim7.holds_tied_plain_at .later [] _ true _ _ FnExactParseVec_row (fun _ h => by cases h) (by kernel_rfl) (fun _ h => by cases h) fnExactParseVec_row_tie rfl ⟨rfl, rfl⟩ (by kernel_rfl) rfl
    (fun f fn hf hfn => by
      obtain rfl : f = 11 := Option.some.inj ((show Tryd.prog.funcNamed Rows.fnExactParseVecRow.func = some 11 by kernel_rfl).symm.trans hf) |>.symm
      obtain rfl : fn = Tryd.f11 := (Option.some.inj (Tryd.func11.symm.trans hfn)).symm
      exact ⟨by kernel_rfl, fun j t ht => by
        have hm : t ∈ Tryd.f11.params.toList := by simpa using Array.mem_of_getElem? ht
        have hall : (Tryd.f11.params.toList.all fun u => !Tryd.prog.wantsStandIn u) = true := by kernel_rfl
        exact (show Tryd.prog.wantsStandIn t = false by simpa using List.all_eq_true.1 hall t hm)⟩)
    (by kernel_rfl)
#print axioms FnExactParseVec_holds
end Go.Proofs.YthcoogljaagneaaDoor
