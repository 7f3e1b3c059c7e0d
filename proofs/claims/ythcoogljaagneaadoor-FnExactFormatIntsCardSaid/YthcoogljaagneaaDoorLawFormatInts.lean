/- FormatInts: the program's function and the reference's give the same text, for all slices of numbers; the argument stays as it was. No condition. -/
import Derived.Test.YthcoogljaagneaaDoorBaseL
import Derived.Test.YthcoogljaagneaaDoorFmtL
import Derived.Test.YthcoogljaagneaaDoorOpenI
namespace Go.Proofs.YthcoogljaagneaaDoor
open Go.ChangeShapes Go.WideShapes Go.ChangeAt Go.RowKit

set_option maxHeartbeats 1000000 in
theorem lawFormatInts (v : Value) (xs : List Int) (w : World) (h : IntsAt w v xs) (hmax : xs.length ≤ maxLen) (hT : Tab w) :
    Calls Tryd.prog 4 #[v] w fun e w' => e = .returned (.bool true) ∧ Below w.heap.size w w' := by
  have h0 := h
  unfold maxLen at hmax
  obtain ⟨a, cap, rfl, hc⟩ := h
  clear hc
  by_cases hbig : 1048576 < (xs.length : Int)
  · clear hT h0
    go_enter Tryd.func4, Tryd.ntmps4
    go_wp2
    go_ret
    exact ⟨rfl, Below.refl _ _⟩
  · have hn : xs.length ≤ 1048576 := by omega
    have HT := Lib.hid hT
    clear hT
    have hB : Below w.heap.size w w := Below.refl _ _
    go_enter Tryd.func4, Tryd.ntmps4
    go_wp2_with fail
    refine (toIntS_any _ xs _ h0 hn).mono ?_
    rintro e w1 ⟨v1, rfl, h1, hb⟩
    have h01 := h0.keep hb
    replace hB := b_keep hb hB
    clear hb h0
    go_wp2_with fail
    refine (fmtIntsS v1 xs w1 h1 hn).mono ?_
    rintro e w2 ⟨rfl, hb⟩
    have h02 := h01.keep hb
    replace hB := b_keep hb hB
    clear hb h01 h1
    go_wp2_with fail
    refine (toIntS_any _ xs _ h02 hn).mono ?_
    rintro e w3 ⟨v2, rfl, h2, hb⟩
    have h03 := h02.keep hb
    replace hB := b_keep hb hB
    clear hb h02
    have HT1 := Lib.hid (HT.out.keep hB)
    go_wp2_with fail
    refine (fmtIntsI v2 xs w3 h2 hn HT1.out).mono ?_
    rintro e w4 ⟨rfl, hb⟩
    have h04 := h03.keep hb
    have h24 := h2.keep hb
    replace hB := b_keep hb hB
    clear hb h03 h2
    go_wp2_with fail
    refine (toIntS_any _ xs _ h04 hn).mono ?_
    rintro e w5 ⟨v3, rfl, h3, hb⟩
    have h25 := h24.keep hb
    replace hB := b_keep hb hB
    clear hb h04 h24
    go_wp2_with fail
    refine (eqIntS_same v2 v3 xs w5 h25 h3 hn).mono ?_
    rintro e w6 ⟨rfl, hb⟩
    replace hB := b_keep hb hB
    clear hb h25 h3
    go_wp2
    go_ret
    exact ⟨rfl, hB⟩

set_option maxRecDepth 100000 in
theorem FnExactFormatInts_run {H : Type} {enc : TypeId × Value → H} (W : World) (base : Nat) (args : Array Value) (ds : List (DataW H)) (p : List MemPlace)
    (hL : laidMetH Tryd.prog laid3 W) (hl : args.toList.length = Tryd.f4.params.toList.length)
    (hval : ∀ (j : Nat) t v, Tryd.f4.params[j]? = some t → args[j]? = some v → Value.okWide Tryd.prog W .any base t v)
    (hA : DataW.TrodAll enc Tryd.prog W 0 (fun _ => true) true Tryd.f4.params.toList args.toList ds p) :
    Calls Tryd.prog 4 args W fun e w' => e = .returned (.bool true) ∧ Below W.heap.size W w' := by
  rw [Tryd.params4] at hl hval hA
  obtain ⟨v0, d0, rfl, rfl, h0⟩ := trodAll_one hA
  obtain ⟨xs, hx, hm⟩ := open_intS (hval 0 24 v0 rfl rfl) h0
  exact lawFormatInts v0 xs W hx hm (tab_of3 hL)

set_option maxRecDepth 100000 in
theorem FnExactFormatInts_lifted (os : Os) (started : os.Started) (H : Type) (enc : TypeId × Value → H) :
    ReturnsInHanded {} Tryd.checked os 4 .any (fun w args => (Rows.fnExactFormatIntsSpec.pre enc Tryd.prog Tryd.f4 [] false w args ∧ laidMetH Tryd.prog laid3 w) ∧ sizedMet enc Tryd.prog Tryd.f4 (OpenSpec.ofChange Rows.fnExactFormatIntsSpec) false w args)
      (Rows.fnExactFormatIntsSpec.post enc Tryd.prog Tryd.f4 false true false false) := by
  refine returnsInHanded_of_change_and (C := Tryd.checked) (X := fun w _ => laidMetH Tryd.prog laid3 w) (fun _ _ _ hh h => h.of_heap hh) own started (by kernel_rfl) Tryd.func4
    (ChangeSpec.witness_shaped (enc := enc) (C := Tryd.checked) (os := os) (X := fun w _ => laidMetH Tryd.prog laid3 w) false (World.doorLaid Tryd.prog 62 os) #[.slice none 0 0] 8 rfl (World.shaped_of_RefB (by kernel_rfl) (by kernel_rfl)) (by kernel_rfl) (by kernel_rfl) (by kernel_rfl) (door3_met os _)) ?_
  intro W base args ds gs before hval hW _ _ hL _
  exact Fr.contractAt (P := Tryd.prog) (tb := 4) laidOut (by kernel_rfl) rfl rfl (by kernel_rfl) (fun ds hl => by match ds, hl with | [_], _ => rfl) W base args (fun ds p => FnExactFormatInts_run W base args ds p hL) ds gs before hval hW

theorem FnExactFormatInts_row : Rows.FnExactFormatIntsSaid :=
  OpenClaim.holds_of_wide 4 Tryd.f4 rfl rfl rfl rfl rfl rfl rfl ⟨rfl, rfl, rfl, rfl, rfl⟩ rfl rfl rfl rfl rfl (by kernel_rfl) Tryd.func4 (by kernel_rfl)
    (of_decide_eq_true (by kernel_rfl)) (by unfold Func.isWrapper; first | (rw [if_pos (by decide +kernel)]; kernel_rfl) | (rw [if_neg (by decide +kernel)]; exact ⟨rfl, rfl⟩))
    (fun os started H enc _ => FnExactFormatInts_lifted os started H enc)

theorem FnExactFormatInts_holds : Rows.FnExactFormatIntsCardSaid :=
  Claim7.holds_tied_plain_at .later [] _ true _ _ FnExactFormatInts_row (fun _ h => by cases h) (by kernel_rfl) (fun _ h => by cases h) fnExactFormatInts_row_tie rfl ⟨rfl, rfl⟩ (by kernel_rfl) rfl
    (fun f fn hf hfn => by
      obtain rfl : f = 4 := Option.some.inj ((show Tryd.prog.funcNamed Rows.fnExactFormatIntsRow.func = some 4 by kernel_rfl).symm.trans hf) |>.symm
      obtain rfl : fn = Tryd.f4 := (Option.some.inj (Tryd.func4.symm.trans hfn)).symm
      exact ⟨by kernel_rfl, fun j t ht => by
        have hm : t ∈ Tryd.f4.params.toList := by simpa using Array.mem_of_getElem? ht
        have hall : (Tryd.f4.params.toList.all fun u => !Tryd.prog.wantsStandIn u) = true := by kernel_rfl
        exact (show Tryd.prog.wantsStandIn t = false by simpa using List.all_eq_true.1 hall t hm)⟩)
    (by kernel_rfl)
#print axioms FnExactFormatInts_holds
end Go.Proofs.YthcoogljaagneaaDoor
