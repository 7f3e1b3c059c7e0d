/- SplitSubPatch: the program's function and the reference's give the same quarters, for all arguments; they lie in memory of their own. No condition. -/
import Derived.Test.YtadjnmldgnaabaaOpen
import Derived.Test.YtadjnmldgnaabaaSplJ
namespace Go.Proofs.Ytadjnmldgnaabaa
open Go.ChangeShapes Go.WideShapes Go.ChangeAt Go.RowKit

set_option maxHeartbeats 400000 in
theorem toSubPatch_any (x y z : Int) (w : World) :
    Calls Try.prog 6 #[.agg #[.int .i64 (x), .int .i64 (y), .int .i64 (z)]] w
      fun e w' => e = .returned (.agg #[.int .i64 (x), .int .i64 (y), .int .i64 (z)]) ∧ Below w.heap.size w w' := by
  go_enter Try.func6, Try.ntmps6
  go_wp2
  exact bodyPost_ret (v := .agg #[.int .i64 (x), .int .i64 (y), .int .i64 (z)]) (by simp [results, Try.results6, go_sem]) rfl ⟨rfl, ((((Below.refl _ _).alloc (Nat.le_refl _) _).alloc (by simp) _).alloc (by simp; omega) _)⟩

/-- A slice of n structs of three ints, in a block below H. -/
def SubsIn (w : World) (H : Nat) (v : Value) (n : Nat) (f : Nat → Int) : Prop :=
  ∃ (a : Option Addr) (cap : Nat), v = .slice a n cap ∧ n ≤ cap ∧ (0 < n → ∃ g, a = some ⟨g, 0, none⟩ ∧ g < H ∧
    ∀ i, i < n * 3 → w.cell? ⟨g, i, none⟩ = some (.int .i64 (f i)) ∧ w.frozen? ⟨g, i, none⟩ = false)
theorem SubsAt.in_ {w : World} {B : Nat} {v : Value} {n : Nat} {f : Nat → Int} (h : SubsAt w B v n f) : SubsIn w w.heap.size v n f := by
  obtain ⟨a, cap, rfl, hcap, hc⟩ := h
  refine ⟨a, cap, rfl, hcap, fun h0 => ?_⟩
  obtain ⟨g, rfl, _, h2, h3⟩ := hc h0
  exact ⟨g, rfl, h2, h3⟩
theorem SubsIn.keep {w w' : World} {B H : Nat} {v : Value} {n : Nat} {f : Nat → Int} (h : SubsIn w H v n f) (hb : Below B w w') (hH : H ≤ B) : SubsIn w' H v n f := by
  obtain ⟨a, cap, rfl, hcap, hc⟩ := h
  refine ⟨a, cap, rfl, hcap, fun h0 => ?_⟩
  obtain ⟨g, rfl, h2, h3⟩ := hc h0
  exact ⟨g, rfl, h2, fun i hi => ⟨(hb.cell (p := ⟨g, i, none⟩) (Nat.lt_of_lt_of_le h2 hH)).trans (h3 i hi).1, (hb.frozen (p := ⟨g, i, none⟩) (Nat.lt_of_lt_of_le h2 hH)).trans (h3 i hi).2⟩⟩
theorem SubsIn.at_ {w : World} {H : Nat} {v : Value} {n : Nat} {f : Nat → Int} (h : SubsIn w H v n f) (hH : H ≤ w.heap.size) : SubsAt w 0 v n f := by
  obtain ⟨a, cap, rfl, hcap, hc⟩ := h
  refine ⟨a, cap, rfl, hcap, fun h0 => ?_⟩
  obtain ⟨g, rfl, h2, h3⟩ := hc h0
  exact ⟨g, rfl, Nat.zero_le _, Nat.lt_of_lt_of_le h2 hH, h3⟩
theorem spN_le (u v n : Int) : spN u v n ≤ 4 := by unfold spN; split <;> omega

set_option maxHeartbeats 2000000 in
theorem lawSplitSubPatch (x y z : Int) (w : World) :
    Calls Try.prog 3 #[.agg #[.int .i64 (x), .int .i64 (y), .int .i64 (z)]] w fun e w' => e = .returned (.bool true) ∧ Below w.heap.size w w' := by
  have hB := below1 w (.cells #[.int .i64 (x), .int .i64 (y), .int .i64 (z)] 23)
  have b0 := Blk.new w 23 #[.int .i64 (x), .int .i64 (y), .int .i64 (z)]
  have hn := spN_le x y z
  have HS := Lib.hid (fun W => splitSubS x y z W)
  have HI := Lib.hid (fun W => splitSubI x y z W)
  unfold SplRes at HS HI
  generalize spN x y z = N at hn HS HI
  generalize spF x y z = F at HS HI
  go_enter Try.func3, Try.ntmps3
  go_wp2_with fail
  generalize w.alloc (.cells #[.int .i64 (x), .int .i64 (y), .int .i64 (z)] 23) = W0 at hB b0 ⊢
  have c0 := b0.cell
  have f0 := b0.frozen
  have l0 := b0.lt
  refine (toSubPatch_any _ _ _ _).mono ?_
  rintro e w1 ⟨rfl, hb⟩
  have hB := (by with_reducible first | exact b_keep hb hB | exact b_keep hb hB.drew)
  replace b0 : Blk w1 _ _ _ := (by with_reducible first | exact Blk.keep hb b0 | exact Blk.keep hb b0.drew)
  replace l0 := b0.lt
  replace c0 := b0.cell
  replace f0 := b0.frozen
  clear hb
  go_wp2_with fail
  refine (HS.out _).mono ?_
  rintro e w1 ⟨v1, rfl, h1, hb⟩
  obtain ⟨H1, hH1⟩ : ∃ H1, H1 = w1.heap.size := ⟨_, rfl⟩
  have hA := h1.in_
  rw [← hH1] at hA
  have hN := Nat.le_of_eq hH1
  clear hH1 h1
  have hB := (by with_reducible first | exact b_keep hb hB | exact b_keep hb hB.drew)
  replace b0 : Blk w1 _ _ _ := (by with_reducible first | exact Blk.keep hb b0 | exact Blk.keep hb b0.drew)
  replace l0 := b0.lt
  replace c0 := b0.cell
  replace f0 := b0.frozen
  clear hb
  go_wp2_with fail
  refine (toSubPatch_any _ _ _ _).mono ?_
  rintro e w1 ⟨rfl, hb⟩
  replace hA := hA.keep hb hN
  replace hN := Nat.le_trans hN hb.size
  have hB := (by with_reducible first | exact b_keep hb hB | exact b_keep hb hB.drew)
  replace b0 : Blk w1 _ _ _ := (by with_reducible first | exact Blk.keep hb b0 | exact Blk.keep hb b0.drew)
  replace l0 := b0.lt
  replace c0 := b0.cell
  replace f0 := b0.frozen
  clear hb
  go_wp2_with fail
  refine (HI.out _).mono ?_
  rintro e w2 ⟨v2, rfl, h2, hb⟩
  obtain ⟨H2, hH2⟩ : ∃ H2, H2 = w1.heap.size := ⟨_, rfl⟩
  rw [← hH2] at h2 l0
  have hN2 : H1 ≤ H2 := hH2 ▸ hN
  replace hA := hA.keep hb hN
  replace hN := Nat.le_trans hN hb.size
  replace b0 := Blk.keep hb b0
  replace hB := b_keep hb hB
  clear hb hH2 c0 f0
  go_wp2_with fail
  refine (eqSubs_same v2 v1 _ _ _ _ _ h2 (hA.at_ hN) (by omega)).mono ?_
  rintro e w3 ⟨rfl, hb⟩
  replace hA := hA.keep hb hN
  replace h2 := h2.keep hb
  replace hB := b_keep hb hB
  replace hN := Nat.le_trans hN hb.size
  replace b0 := Blk.keep hb b0
  clear hb
  go_wp2_with fail
  refine (markSubs_any H2 1 v2 _ _ _ h2 (by omega)).mono ?_
  rintro e w4 ⟨rfl, hm, hb⟩
  replace hA := hA.keep hb hN2
  replace hB := hB.trans (hb.mono (by omega))
  replace hN := Nat.le_trans hN hb.size
  replace b0 := Blk.keepB hb l0 b0
  clear hb h2
  go_wp2_with fail
  refine (heldSubs_any _ 1 _ v2 _ hm (by omega)).mono ?_
  rintro e w5 ⟨rfl, hb⟩
  replace hA := hA.keep hb hN
  replace hm := hm.keep hb
  replace hB := b_keep hb hB
  replace hN := Nat.le_trans hN hb.size
  replace b0 := Blk.keep hb b0
  have c0 := b0.cell
  have f0 := b0.frozen
  have l0 := b0.lt
  clear hb
  go_wp2_with fail
  refine (toSubPatch_any _ _ _ _).mono ?_
  rintro e w1 ⟨rfl, hb⟩
  replace hA := hA.keep hb hN
  replace hm := hm.keep hb
  replace hN := Nat.le_trans hN hb.size
  replace hB := b_keep hb hB
  clear hb c0 f0 l0 b0
  go_wp2_with fail
  refine (HI.out _).mono ?_
  rintro e w6 ⟨v3, rfl, h3, hb⟩
  replace hA := hA.keep hb hN
  replace hm := hm.keep hb
  replace hB := b_keep hb hB
  replace hN := Nat.le_trans hN hb.size
  clear hb
  go_wp2_with fail
  refine (eqSubs_same v3 v1 _ _ _ _ _ h3 (hA.at_ hN) (by omega)).mono ?_
  rintro e w7 ⟨rfl, hb⟩
  replace hm := hm.keep hb
  replace hB := b_keep hb hB
  clear hb hA h3 hN
  go_wp2_with fail
  refine (heldSubs_any _ 1 _ v2 _ hm (by omega)).mono ?_
  rintro e w8 ⟨rfl, hb⟩
  replace hB := b_keep hb hB
  clear hb hm
  go_wp2
  go_ret
  exact ⟨rfl, hB⟩

set_option maxRecDepth 100000 in
theorem FnExactSplitSubPatch_run {H : Type} {enc : TypeId × Value → H} (W : World) (base : Nat) (args : Array Value) (ds : List (DataW H)) (p : List MemPlace)
    (hl : args.toList.length = Try.f3.params.toList.length)
    (hval : ∀ (j : Nat) t v, Try.f3.params[j]? = some t → args[j]? = some v → Value.okWide Try.prog W .any base t v)
    (_ : DataW.TrodAll enc Try.prog W 0 (fun _ => true) true Try.f3.params.toList args.toList ds p) :
    Calls Try.prog 3 args W fun e w' => e = .returned (.bool true) ∧ Below W.heap.size W w' := by
  rw [Try.params3] at hl hval
  obtain ⟨v0, rfl⟩ := Fr.arr1 hl
  obtain ⟨a, b, c, rfl, _, _, _⟩ := open_subpatch (hval 0 23 v0 rfl rfl)
  exact lawSplitSubPatch a b c W

set_option maxRecDepth 100000 in
theorem FnExactSplitSubPatch_lifted (os : Os) (started : os.Started) (H : Type) (enc : TypeId × Value → H) :
    ReturnsInHanded {} Try.checked os 3 .any (Rows.fnExactSplitSubPatchSpec.pre6 enc Try.prog Try.f3 Rows.fnExactSplitSubPatchRow.domain false) (Rows.fnExactSplitSubPatchSpec.post enc Try.prog Try.f3 false true false false) := by
  refine returnsInHanded_of_change (C := Try.checked) own started (by kernel_rfl) Try.func3
    (ChangeSpec.witness6 (enc := enc) (C := Try.checked) false ⟨#[], #[.agg #[.int .i64 (0), .int .i64 (0), .int .i64 (0)]], []⟩ 8 (by kernel_rfl) (by kernel_rfl) (by kernel_rfl) (by kernel_rfl)) ?_
  intro W base args ds gs before hval hW _ _
  exact Fr.contract (P := Try.prog) (tb := 4) laidOut (by kernel_rfl) rfl rfl (by kernel_rfl) (fun ds hl => by match ds, hl with | [_], _ => rfl) FnExactSplitSubPatch_run W base args ds gs before hval hW

theorem FnExactSplitSubPatch_holds : Rows.FnExactSplitSubPatchSaid :=
  OpenClaim.holds_of_wide 3 Try.f3 rfl rfl rfl rfl rfl rfl rfl ⟨rfl, rfl, rfl, rfl, rfl⟩ rfl rfl rfl rfl rfl (by kernel_rfl) Try.func3 (by kernel_rfl)
    (of_decide_eq_true (by kernel_rfl)) (by unfold Func.isWrapper; first | (rw [if_pos (by decide +kernel)]; kernel_rfl) | (rw [if_neg (by decide +kernel)]; exact ⟨rfl, rfl⟩))
    (fun os started H enc _ => FnExactSplitSubPatch_lifted os started H enc)
#print axioms FnExactSplitSubPatch_holds
end Go.Proofs.Ytadjnmldgnaabaa
