/- ParseInts: the program's function and the reference's give the same answer, for all texts; the numbers lie in memory of their own. No condition. -/
import Derived.Test.YthcoogljaagneaaDoorBaseL5
import Derived.Test.YthcoogljaagneaaDoorMarkI
namespace Go.Proofs.YthcoogljaagneaaDoor
open Go.ChangeShapes Go.WideShapes Go.ChangeAt Go.RowKit
open Go.ChangeMaps (open_string)

theorem allNums_len : ∀ {ws : List (List UInt8)} {xs : List Int}, allNums ws = some xs → xs.length = ws.length := by
  intro ws xs h
  rw [(allNums_some h).1, List.length_map]
theorem intsOf_len (s : ByteArray) : ((intsOf s.data.toList).getD []).length ≤ s.size + 1 := by
  cases h : intsOf s.data.toList with
  | none => simp
  | some xs =>
    unfold intsOf at h
    split at h
    · obtain rfl := Option.some.inj h
      simp
    · have h1 := allNums_len h
      have h2 := pieces_split s 44
      have h3 := pieces_len s (sepB ⟨#[44]⟩)
      rw [← h2, List.length_map] at h1
      show xs.length ≤ _
      omega
set_option maxHeartbeats 1000000 in
theorem lawParseInts (s : ByteArray) (hs : s.size ≤ maxLen) (w : World) (hT : Tab w) (hE : Errs w) :
    Calls Tryd.prog 10 #[.string s] w fun e w' => e = .returned (.bool true) ∧ Below w.heap.size w w' := by
  unfold maxLen at hs
  by_cases hbig : 1048576 < (s.size : Int)
  · clear hT hE
    go_enter Tryd.func10, Tryd.ntmps10
    go_wp2
    go_ret
    exact ⟨rfl, Below.refl _ _⟩
  have hs1 : s.size ≤ 1048576 := by omega
  have hn := intsOf_len s
  have HT := Lib.hid hT
  have HE := Lib.hid hE
  have hB := Below.refl w.heap.size w
  clear hT hE
  obtain ⟨b, hb0⟩ : ∃ b, (intsOf s.data.toList).isSome = b := ⟨_, rfl⟩
  obtain ⟨xs, hx0⟩ : ∃ xs, (intsOf s.data.toList).getD [] = xs := ⟨_, rfl⟩
  rw [hx0] at hn
  have HS := Lib.hid (parIntsS s hs1 w)
  have HI : ∀ w', Below w.heap.size w w' → Hid (Calls Tryd.prog 33 #[.string s] w' (ParRes s w')) := fun w' hb => parIntsI s hs1 w' (HT.out.keep hb) (HE.out.keep hb)
  unfold ParRes at HS HI
  rw [hb0, hx0] at HS HI
  clear hb0 hx0
  go_enter Tryd.func10, Tryd.ntmps10
  go_wp2_with fail
  refine HS.out.mono ?_
  rintro e w1 ⟨v1, rfl, h1, hb⟩
  have hA := h1.intsAt.in_
  replace hB := b_keep hb hB
  have hN := Nat.le_refl w1.heap.size
  have hL := hB.size
  clear h1 hb
  have HC := HI _ hB
  go_wp2_with fail
  refine HC.out.mono ?_
  rintro e w2 ⟨v2, rfl, h2, hb⟩
  replace hA := hA.keep hb (Nat.le_refl _)
  replace hB := b_keep hb hB
  replace hN := hb.size
  clear hb HC
  go_wp2_with fail
  refine (eqIntS_same v2 v1 _ _ h2.intsAt (hA.at_ hN) (by omega)).mono ?_
  rintro e w3 ⟨rfl, hb⟩
  replace hA := hA.keep hb hN
  replace h2 := h2.keep hb
  replace hB := b_keep hb hB
  replace hN := Nat.le_trans hN hb.size
  clear hb
  have hbb : (b == b) = true := by simp
  go_wp2_with fail
  refine (markIntS_any w1.heap.size 1 v2 _ _ h2 (by omega)).mono ?_
  rintro e w4 ⟨rfl, hm, hb⟩
  replace hA := hA.keep hb (Nat.le_refl _)
  replace hB := hB.trans (hb.mono hL)
  replace hN := Nat.le_trans hN hb.size
  clear hb h2
  go_wp2_with fail
  refine (heldIntS_any 1 _ v2 _ hm.intsAt (by omega)).mono ?_
  rintro e w5 ⟨rfl, hb⟩
  replace hA := hA.keep hb hN
  replace hm := hm.keep hb
  replace hB := b_keep hb hB
  replace hN := Nat.le_trans hN hb.size
  clear hb
  have HC := HI _ hB
  go_wp2_with fail
  refine HC.out.mono ?_
  rintro e w6 ⟨v3, rfl, h3, hb⟩
  replace hA := hA.keep hb hN
  replace hm := hm.keep hb
  replace hB := b_keep hb hB
  replace hN := Nat.le_trans hN hb.size
  clear hb HC
  go_wp2_with fail
  refine (eqIntS_same v3 v1 _ _ h3.intsAt (hA.at_ hN) (by omega)).mono ?_
  rintro e w7 ⟨rfl, hb⟩
  replace hm := hm.keep hb
  replace hB := b_keep hb hB
  clear hb hA h3 hN
  go_wp2_with fail
  refine (heldIntS_any 1 _ v2 _ hm.intsAt (by omega)).mono ?_
  rintro e w8 ⟨rfl, hb⟩
  replace hB := b_keep hb hB
  clear hb hm
  go_wp2
  go_ret
  exact ⟨rfl, hB⟩

set_option maxRecDepth 100000 in
theorem FnExactParseInts_run {H : Type} {enc : TypeId × Value → H} (W : World) (base : Nat) (args : Array Value) (ds : List (DataW H)) (p : List MemPlace)
    (hL : laidMetH Tryd.prog laid5 W) (hl : args.toList.length = Tryd.f10.params.toList.length)
    (hval : ∀ (j : Nat) t v, Tryd.f10.params[j]? = some t → args[j]? = some v → Value.okWide Tryd.prog W .any base t v)
    (hA : DataW.TrodAll enc Tryd.prog W 0 (fun _ => true) true Tryd.f10.params.toList args.toList ds p) :
    Calls Tryd.prog 10 args W fun e w' => e = .returned (.bool true) ∧ Below W.heap.size W w' := by
  rw [Tryd.params10] at hl hval hA
  obtain ⟨v0, d0, rfl, rfl, h0⟩ := trodAll_one hA
  obtain ⟨s, rfl, rfl, rfl, hs⟩ := open_string Tryd.underlying9 (hval 0 9 v0 rfl rfl) h0
  exact lawParseInts s hs W (tab_of5 hL) (errs_of5 hL)

set_option maxRecDepth 100000 in
theorem FnExactParseInts_lifted (os : Os) (started : os.Started) (H : Type) (enc : TypeId × Value → H) :
    ReturnsInHanded {} Tryd.checked os 10 .any (fun w args => (Rows.fnExactParseIntsSpec.pre enc Tryd.prog Tryd.f10 [] false w args ∧ laidMetH Tryd.prog laid5 w) ∧ sizedMet enc Tryd.prog Tryd.f10 (OpenSpec.ofChange Rows.fnExactParseIntsSpec) false w args)
      (Rows.fnExactParseIntsSpec.post enc Tryd.prog Tryd.f10 false true false false) := by
  refine returnsInHanded_of_change_and (C := Tryd.checked) (X := fun w _ => laidMetH Tryd.prog laid5 w) (fun _ _ _ hh h => h.of_heap hh) own started (by kernel_rfl) Tryd.func10
    (ChangeSpec.witness_shaped (enc := enc) (C := Tryd.checked) (os := os) (X := fun w _ => laidMetH Tryd.prog laid5 w) false (World.doorLaid Tryd.prog 62 os) #[.string ByteArray.empty] 8 rfl (World.shaped_of_RefB (by kernel_rfl) (by kernel_rfl)) (by kernel_rfl) (by kernel_rfl) (by kernel_rfl) (door5_met os _)) ?_
  intro W base args ds gs before hval hW _ _ hL _
  exact Fr.contractAt (P := Tryd.prog) (tb := 4) laidOut (by kernel_rfl) rfl rfl (by kernel_rfl) (fun ds hl => by match ds, hl with | [_], _ => rfl) W base args (fun ds p => FnExactParseInts_run W base args ds p hL) ds gs before hval hW

theorem FnExactParseInts_row : Rows.FnExactParseIntsSaid :=
  OpenClaim.holds_of_wide 10 Tryd.f10 rfl rfl rfl rfl rfl rfl rfl ⟨rfl, rfl, rfl, rfl, rfl⟩ rfl rfl rfl rfl rfl (by kernel_rfl) Tryd.func10 (by kernel_rfl)
    (of_decide_eq_true (by kernel_rfl)) (by unfold Func.isWrapper; first | (rw [if_pos (by decide +kernel)]; kernel_rfl) | (rw [if_neg (by decide +kernel)]; exact ⟨rfl, rfl⟩))
    (fun os started H enc _ => FnExactParseInts_lifted os started H enc)

theorem FnExactParseInts_holds : Rows.FnExactParseIntsCardSaid :=
  Claim7.holds_tied_plain_at .later [] _ true _ _ FnExactParseInts_row (fun _ h => by cases h) (by kernel_rfl) (fun _ h => by cases h) fnExactParseInts_row_tie rfl ⟨rfl, rfl⟩ (by kernel_rfl) rfl
    (fun f fn hf hfn => by
      obtain rfl : f = 10 := Option.some.inj ((show Tryd.prog.funcNamed Rows.fnExactParseIntsRow.func = some 10 by kernel_rfl).symm.trans hf) |>.symm
      obtain rfl : fn = Tryd.f10 := (Option.some.inj (Tryd.func10.symm.trans hfn)).symm
      exact ⟨by kernel_rfl, fun j t ht => by
        have hm : t ∈ Tryd.f10.params.toList := by simpa using Array.mem_of_getElem? ht
        have hall : (Tryd.f10.params.toList.all fun u => !Tryd.prog.wantsStandIn u) = true := by kernel_rfl
        exact (show Tryd.prog.wantsStandIn t = false by simpa using List.all_eq_true.1 hall t hm)⟩)
    (by kernel_rfl)
#print axioms FnExactParseInts_holds
end Go.Proofs.YthcoogljaagneaaDoor
