/- SplitAny: the program's function and the reference's give the same pieces, for all texts and separators; the pieces lie in memory of their own. No condition. -/
import Derived.Test.YthcoogljaagneaaBase
import Derived.Test.YthcoogljaagneaaSplT
import Derived.Test.YthcoogljaagneaaStrC
namespace Go.Proofs.Ythcoogljaagneaa
open Go.ChangeShapes Go.WideShapes Go.ChangeAt Go.RowKit
open Go.ChangeMaps (open_string)

set_option maxHeartbeats 1000000 in
theorem lawSplitAny (s p : ByteArray) (hs : s.size ≤ maxLen) (hp : p.size ≤ maxLen) (w : World) :
    Calls Try.prog 3 #[.string s, .string p] w fun e w' => e = .returned (.bool true) ∧ Below w.heap.size w w' := by
  unfold maxLen at hs hp
  by_cases hbig : 1048576 < (s.size : Int)
  · go_enter Try.func3, Try.ntmps3
    go_wp2
    go_ret
    exact ⟨rfl, Below.refl _ _⟩
  by_cases hbig2 : 1048576 < (p.size : Int)
  · go_enter Try.func3, Try.ntmps3
    go_wp2
    go_ret
    exact ⟨rfl, Below.refl _ _⟩
  have hs1 : s.size ≤ 1048576 := by omega
  have hp1 : p.size ≤ 1048576 := by omega
  have hn := pieces_len s (hasB p)
  have hB := Below.refl w.heap.size w
  go_enter Try.func3, Try.ntmps3
  go_wp2_with fail
  refine (splitS s p _ hs1 hp1).mono ?_
  rintro e w1 ⟨v1, rfl, h1, hb⟩
  have hA := h1.strsAt.in_
  replace hB := b_keep hb hB
  have hN := Nat.le_refl w1.heap.size
  have hL := hB.size
  clear h1 hb
  go_wp2_with fail
  refine (splitI s p _ hs1).mono ?_
  rintro e w2 ⟨v2, rfl, h2, hb⟩
  replace hA := hA.keep hb (Nat.le_refl _)
  replace hB := b_keep hb hB
  replace hN := hb.size
  clear hb
  go_wp2_with fail
  refine (eqStringS_same v2 v1 _ _ h2.strsAt (hA.at_ hN) (by omega)).mono ?_
  rintro e w3 ⟨rfl, hb⟩
  replace hA := hA.keep hb hN
  replace h2 := h2.keep hb
  replace hB := b_keep hb hB
  replace hN := Nat.le_trans hN hb.size
  clear hb
  go_wp2_with fail
  refine (markStringS_any w1.heap.size 1 v2 _ _ h2 hN (by omega) (by omega)).mono ?_
  rintro e w4 ⟨rfl, hm, hb⟩
  replace hA := hA.keep hb (Nat.le_refl _)
  replace hB := hB.trans (hb.mono hL)
  replace hN := Nat.le_trans hN hb.size
  clear hb h2
  go_wp2_with fail
  refine (heldStringS_any 1 _ v2 _ hm.strsAt (by omega) (by omega)).mono ?_
  rintro e w5 ⟨rfl, hb⟩
  replace hA := hA.keep hb hN
  replace hm := hm.keep hb
  replace hB := b_keep hb hB
  replace hN := Nat.le_trans hN hb.size
  clear hb
  go_wp2_with fail
  refine (splitI s p _ hs1).mono ?_
  rintro e w6 ⟨v3, rfl, h3, hb⟩
  replace hA := hA.keep hb hN
  replace hm := hm.keep hb
  replace hB := b_keep hb hB
  replace hN := Nat.le_trans hN hb.size
  clear hb
  go_wp2_with fail
  refine (eqStringS_same v3 v1 _ _ h3.strsAt (hA.at_ hN) (by omega)).mono ?_
  rintro e w7 ⟨rfl, hb⟩
  replace hm := hm.keep hb
  replace hB := b_keep hb hB
  clear hb hA h3 hN
  go_wp2_with fail
  refine (heldStringS_any 1 _ v2 _ hm.strsAt (by omega) (by omega)).mono ?_
  rintro e w8 ⟨rfl, hb⟩
  replace hB := b_keep hb hB
  clear hb hm
  go_wp2
  go_ret
  exact ⟨rfl, hB⟩

set_option maxRecDepth 100000 in
theorem FnExactSplitAny_run {H : Type} {enc : TypeId × Value → H} (W : World) (base : Nat) (args : Array Value) (ds : List (DataW H)) (p : List MemPlace)
    (hl : args.toList.length = Try.f3.params.toList.length)
    (hval : ∀ (j : Nat) t v, Try.f3.params[j]? = some t → args[j]? = some v → Value.okWide Try.prog W .any base t v)
    (hA : DataW.TrodAll enc Try.prog W 0 (fun _ => true) true Try.f3.params.toList args.toList ds p) :
    Calls Try.prog 3 args W fun e w' => e = .returned (.bool true) ∧ Below W.heap.size W w' := by
  rw [Try.params3] at hl hval hA
  obtain ⟨v0, v1, d0, d1, p0, p1, rfl, rfl, rfl, h0, h1⟩ := trodAll_two hA
  obtain ⟨s, rfl, rfl, rfl, hs⟩ := open_string Try.underlying9 (hval 0 9 v0 rfl rfl) h0
  obtain ⟨q, rfl, rfl, rfl, hq⟩ := open_string Try.underlying9 (hval 1 9 v1 rfl rfl) h1
  exact lawSplitAny s q hs hq W

set_option maxRecDepth 100000 in
theorem FnExactSplitAny_lifted (os : Os) (started : os.Started) (H : Type) (enc : TypeId × Value → H) :
    ReturnsInHanded {} Try.checked os 3 .any (Rows.fnExactSplitAnySpec.pre6 enc Try.prog Try.f3 Rows.fnExactSplitAnyRow.domain false) (Rows.fnExactSplitAnySpec.post enc Try.prog Try.f3 false true false false) := by
  refine returnsInHanded_of_change (C := Try.checked) own started (by kernel_rfl) Try.func3
    (ChangeSpec.witness6 (enc := enc) (C := Try.checked) false ⟨#[], #[.string ByteArray.empty, .string ByteArray.empty], []⟩ 8 (by kernel_rfl) (by kernel_rfl) (by kernel_rfl) (by kernel_rfl)) ?_
  intro W base args ds gs before hval hW _ _
  exact Fr.contract (P := Try.prog) (tb := 4) laidOut (by kernel_rfl) rfl rfl (by kernel_rfl) (fun ds hl => by match ds, hl with | [_, _], _ => rfl) FnExactSplitAny_run W base args ds gs before hval hW

theorem FnExactSplitAny_holds : Rows.FnExactSplitAnySaid :=
  OpenClaim.holds_of_wide 3 Try.f3 rfl rfl rfl rfl rfl rfl rfl ⟨rfl, rfl, rfl, rfl, rfl⟩ rfl rfl rfl rfl rfl (by kernel_rfl) Try.func3 (by kernel_rfl)
    (of_decide_eq_true (by kernel_rfl)) (by unfold Func.isWrapper; first | (rw [if_pos (by decide +kernel)]; kernel_rfl) | (rw [if_neg (by decide +kernel)]; exact ⟨rfl, rfl⟩))
    (fun os started H enc _ => FnExactSplitAny_lifted os started H enc)
#print axioms FnExactSplitAny_holds
end Go.Proofs.Ythcoogljaagneaa
