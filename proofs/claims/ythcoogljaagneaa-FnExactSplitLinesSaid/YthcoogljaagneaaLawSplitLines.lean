/- SplitLines: the program's function and the reference's give the same lines, for all texts; the lines lie in memory of their own. No condition. -/
import Derived.Test.YthcoogljaagneaaBase
import Derived.Test.YthcoogljaagneaaSplT
import Derived.Test.YthcoogljaagneaaStrC
namespace Go.Proofs.Ythcoogljaagneaa
open Go.ChangeShapes Go.WideShapes Go.ChangeAt Go.RowKit
open Go.ChangeMaps (open_string)

/-- Without an empty end. -/
def linesOf (ss : List ByteArray) : List ByteArray := if (ss[ss.length - 1]?.getD ByteArray.empty).toList.isEmpty then ss.take (ss.length - 1) else ss
theorem linesOf_len (ss : List ByteArray) : (linesOf ss).length ≤ ss.length := by
  unfold linesOf
  split
  · simp
  · exact Nat.le_refl _
theorem OwnStrs.cut {w : World} {B n cap : Nat} {a : Option Addr} {ss : List ByteArray} (h : OwnStrs w B (.slice a ss.length cap) ss) (hn : n ≤ ss.length) : OwnStrs w B (.slice a n cap) (ss.take n) := by
  obtain ⟨a', cap', hv, hcap, hc⟩ := h
  obtain ⟨rfl, rfl⟩ : a = a' ∧ cap = cap' := by injection hv with h1 h2 h3; exact ⟨h1, h3⟩
  have hl : (ss.take n).length = n := by rw [List.length_take]; omega
  refine ⟨a, cap, by rw [hl], by omega, fun h0 => ?_⟩
  rw [hl] at h0
  obtain ⟨g, rfl, hB, hlt, hcell⟩ := hc (by omega)
  refine ⟨g, rfl, hB, hlt, fun i hi => ?_⟩
  rw [hl] at hi
  rw [List.getElem?_take, if_pos hi]
  exact hcell i (by omega)
def LinesRes (s : ByteArray) (w : World) (e : Ending) (w' : World) : Prop := ∃ v, e = .returned v ∧ OwnStrs w' w.heap.size v (linesOf (pieces s (hasB ⟨#[10]⟩))) ∧ Below w.heap.size w w'
set_option maxHeartbeats 1000000 in
theorem linesS (s : ByteArray) (w : World) (hs : s.size ≤ 1048576) : Calls Try.prog 11 #[.string s] w (LinesRes s w) := by
  have HS := Lib.hid (splitS s ⟨#[10]⟩ w hs (by decide))
  have hpos := pieces_pos s (hasB ⟨#[10]⟩)
  have hlen := pieces_len s (hasB ⟨#[10]⟩)
  go_enter Try.func11, Try.ntmps11
  go_wp2_with fail
  refine HS.out.mono ?_
  rintro e w1 ⟨v, rfl, hown, hB⟩
  obtain ⟨ss, hss⟩ : ∃ ss, pieces s (hasB ⟨#[10]⟩) = ss := ⟨_, rfl⟩
  rw [hss] at hpos hlen hown
  have HE := Lib.hid hss
  clear hss
  obtain ⟨m, hm⟩ : ∃ m, ss.length = m + 1 := ⟨ss.length - 1, by omega⟩
  have HO := Lib.hid hown
  obtain ⟨a, cap, rfl, hcap, hc⟩ := hown
  obtain ⟨g, rfl, _, _, hcell⟩ := hc (by omega)
  have c1 := (hcell m (by omega)).1
  have HM := Lib.hid hm
  have hcap1 : m + 1 ≤ cap := by omega
  have hm1 : m ≤ 1048577 := by omega
  rw [hm]
  obtain ⟨x, hx⟩ : ∃ x, ss[m]?.getD ByteArray.empty = x := ⟨_, rfl⟩
  rw [hx] at c1
  have HX := Lib.hid hx
  clear hc hcell hm hcap hpos hlen hx
  cases he : x.toList.isEmpty with
  | true =>
    go_wp2
    go_ret
    refine ⟨_, rfl, ?_, hB⟩
    have hm := HM.out
    rw [HE.out, linesOf, hm, Nat.add_sub_cancel, HX.out, he, if_pos rfl]
    have h2 := HO.out
    exact h2.cut (by omega)
  | false =>
    go_wp2
    go_ret
    refine ⟨_, rfl, ?_, hB⟩
    have hm := HM.out
    rw [HE.out, linesOf, hm, Nat.add_sub_cancel, HX.out, he]
    have h2 := HO.out
    rw [hm] at h2
    exact h2
set_option maxHeartbeats 1000000 in
theorem linesI (s : ByteArray) (w : World) (hs : s.size ≤ 1048576) : Calls Try.prog 12 #[.string s] w (LinesRes s w) := by
  have HS := Lib.hid (splitI s ⟨#[10]⟩ w hs)
  have hpos := pieces_pos s (hasB ⟨#[10]⟩)
  have hlen := pieces_len s (hasB ⟨#[10]⟩)
  go_enter Try.func12, Try.ntmps12
  go_wp2_with fail
  refine HS.out.mono ?_
  rintro e w1 ⟨v, rfl, hown, hB⟩
  obtain ⟨ss, hss⟩ : ∃ ss, pieces s (hasB ⟨#[10]⟩) = ss := ⟨_, rfl⟩
  rw [hss] at hpos hlen hown
  have HE := Lib.hid hss
  clear hss
  obtain ⟨m, hm⟩ : ∃ m, ss.length = m + 1 := ⟨ss.length - 1, by omega⟩
  have HO := Lib.hid hown
  obtain ⟨a, cap, rfl, hcap, hc⟩ := hown
  obtain ⟨g, rfl, _, _, hcell⟩ := hc (by omega)
  have c1 := (hcell m (by omega)).1
  have HM := Lib.hid hm
  have hcap1 : m + 1 ≤ cap := by omega
  have hm1 : m ≤ 1048577 := by omega
  rw [hm]
  obtain ⟨x, hx⟩ : ∃ x, ss[m]?.getD ByteArray.empty = x := ⟨_, rfl⟩
  rw [hx] at c1
  have HX := Lib.hid hx
  clear hc hcell hm hcap hpos hlen hx
  cases he : x.toList.isEmpty with
  | true =>
    go_wp2
    go_ret
    refine ⟨_, rfl, ?_, hB⟩
    have hm := HM.out
    rw [HE.out, linesOf, hm, Nat.add_sub_cancel, HX.out, he, if_pos rfl]
    have h2 := HO.out
    exact h2.cut (by omega)
  | false =>
    go_wp2
    go_ret
    refine ⟨_, rfl, ?_, hB⟩
    have hm := HM.out
    rw [HE.out, linesOf, hm, Nat.add_sub_cancel, HX.out, he]
    have h2 := HO.out
    rw [hm] at h2
    exact h2

set_option maxHeartbeats 1000000 in
theorem lawSplitLines (s : ByteArray) (hs : s.size ≤ maxLen) (w : World) :
    Calls Try.prog 4 #[.string s] w fun e w' => e = .returned (.bool true) ∧ Below w.heap.size w w' := by
  unfold maxLen at hs
  by_cases hbig : 1048576 < (s.size : Int)
  · go_enter Try.func4, Try.ntmps4
    go_wp2
    go_ret
    exact ⟨rfl, Below.refl _ _⟩
  have hs1 : s.size ≤ 1048576 := by omega
  have hn : (linesOf (pieces s (hasB ⟨#[10]⟩))).length ≤ 1048577 := by
    have h1 := pieces_len s (hasB ⟨#[10]⟩)
    have h2 := linesOf_len (pieces s (hasB ⟨#[10]⟩))
    omega
  have hB := Below.refl w.heap.size w
  go_enter Try.func4, Try.ntmps4
  go_wp2_with fail
  refine (linesS s _ hs1).mono ?_
  rintro e w1 ⟨v1, rfl, h1, hb⟩
  have hA := h1.strsAt.in_
  replace hB := b_keep hb hB
  have hN := Nat.le_refl w1.heap.size
  have hL := hB.size
  clear h1 hb
  go_wp2_with fail
  refine (linesI s _ hs1).mono ?_
  rintro e w2 ⟨v2, rfl, h2, hb⟩
  replace hA := hA.keep hb (Nat.le_refl _)
  replace hB := b_keep hb hB
  replace hN := hb.size
  clear hb
  go_wp2_with fail
  refine (eqStringS_same v2 v1 _ _ h2.strsAt (hA.at_ hN) (by omega)).mono ?_
  rintro e w3 ⟨rfl, hb⟩
  replace hA := hA.keep hb hN
  replace h2 := h2.keep hb
  replace hB := b_keep hb hB
  replace hN := Nat.le_trans hN hb.size
  clear hb
  go_wp2_with fail
  refine (markStringS_any w1.heap.size 1 v2 _ _ h2 hN (by omega) (by omega)).mono ?_
  rintro e w4 ⟨rfl, hm, hb⟩
  replace hA := hA.keep hb (Nat.le_refl _)
  replace hB := hB.trans (hb.mono hL)
  replace hN := Nat.le_trans hN hb.size
  clear hb h2
  go_wp2_with fail
  refine (heldStringS_any 1 _ v2 _ hm.strsAt (by omega) (by omega)).mono ?_
  rintro e w5 ⟨rfl, hb⟩
  replace hA := hA.keep hb hN
  replace hm := hm.keep hb
  replace hB := b_keep hb hB
  replace hN := Nat.le_trans hN hb.size
  clear hb
  go_wp2_with fail
  refine (linesI s _ hs1).mono ?_
  rintro e w6 ⟨v3, rfl, h3, hb⟩
  replace hA := hA.keep hb hN
  replace hm := hm.keep hb
  replace hB := b_keep hb hB
  replace hN := Nat.le_trans hN hb.size
  clear hb
  go_wp2_with fail
  refine (eqStringS_same v3 v1 _ _ h3.strsAt (hA.at_ hN) (by omega)).mono ?_
  rintro e w7 ⟨rfl, hb⟩
  replace hm := hm.keep hb
  replace hB := b_keep hb hB
  clear hb hA h3 hN
  go_wp2_with fail
  refine (heldStringS_any 1 _ v2 _ hm.strsAt (by omega) (by omega)).mono ?_
  rintro e w8 ⟨rfl, hb⟩
  replace hB := b_keep hb hB
  clear hb hm
  go_wp2
  go_ret
  exact ⟨rfl, hB⟩

set_option maxRecDepth 100000 in
theorem FnExactSplitLines_run {H : Type} {enc : TypeId × Value → H} (W : World) (base : Nat) (args : Array Value) (ds : List (DataW H)) (p : List MemPlace)
    (hl : args.toList.length = Try.f4.params.toList.length)
    (hval : ∀ (j : Nat) t v, Try.f4.params[j]? = some t → args[j]? = some v → Value.okWide Try.prog W .any base t v)
    (hA : DataW.TrodAll enc Try.prog W 0 (fun _ => true) true Try.f4.params.toList args.toList ds p) :
    Calls Try.prog 4 args W fun e w' => e = .returned (.bool true) ∧ Below W.heap.size W w' := by
  rw [Try.params4] at hl hval hA
  obtain ⟨v0, d0, rfl, rfl, h0⟩ := trodAll_one hA
  obtain ⟨s, rfl, rfl, rfl, hs⟩ := open_string Try.underlying9 (hval 0 9 v0 rfl rfl) h0
  exact lawSplitLines s hs W

set_option maxRecDepth 100000 in
theorem FnExactSplitLines_lifted (os : Os) (started : os.Started) (H : Type) (enc : TypeId × Value → H) :
    ReturnsInHanded {} Try.checked os 4 .any (Rows.fnExactSplitLinesSpec.pre6 enc Try.prog Try.f4 Rows.fnExactSplitLinesRow.domain false) (Rows.fnExactSplitLinesSpec.post enc Try.prog Try.f4 false true false false) := by
  refine returnsInHanded_of_change (C := Try.checked) own started (by kernel_rfl) Try.func4
    (ChangeSpec.witness6 (enc := enc) (C := Try.checked) false ⟨#[], #[.string ByteArray.empty], []⟩ 8 (by kernel_rfl) (by kernel_rfl) (by kernel_rfl) (by kernel_rfl)) ?_
  intro W base args ds gs before hval hW _ _
  exact Fr.contract (P := Try.prog) (tb := 4) laidOut (by kernel_rfl) rfl rfl (by kernel_rfl) (fun ds hl => by match ds, hl with | [_], _ => rfl) FnExactSplitLines_run W base args ds gs before hval hW

theorem FnExactSplitLines_holds : Rows.FnExactSplitLinesSaid :=
  OpenClaim.holds_of_wide 4 Try.f4 rfl rfl rfl rfl rfl rfl rfl ⟨rfl, rfl, rfl, rfl, rfl⟩ rfl rfl rfl rfl rfl (by kernel_rfl) Try.func4 (by kernel_rfl)
    (of_decide_eq_true (by kernel_rfl)) (by unfold Func.isWrapper; first | (rw [if_pos (by decide +kernel)]; kernel_rfl) | (rw [if_neg (by decide +kernel)]; exact ⟨rfl, rfl⟩))
    (fun os started H enc _ => FnExactSplitLines_lifted os started H enc)
#print axioms FnExactSplitLines_holds
end Go.Proofs.Ythcoogljaagneaa
