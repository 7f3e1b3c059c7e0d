/- BoundPoints: the program's function and the reference's give the same box, for all slices of vectors; the argument stays as it was. No condition. -/
import Derived.Test.YtobfccoljijnkaaBase
import Derived.Test.YtobfccoljijnkaaOpenV
import Derived.Test.YtobfccoljijnkaaVecs
import Derived.Test.YtobfccoljijnkaaBndI
namespace Go.Proofs.Ytobfccoljijnkaa
open Go.ChangeShapes Go.WideShapes Go.ChangeAt Go.RowKit

set_option maxHeartbeats 4000000 in
theorem lawBoundPoints (v : Value) (n : Nat) (x y z : Nat → Int) (w : World) (h : TriAt w v n x y z) (hmax : n ≤ maxLen) :
    Calls Try.prog 11 #[v] w fun e w' => e = .returned (.bool true) ∧ Below w.heap.size w w' := by
  unfold maxLen at hmax
  by_cases hbig : 1048576 < n
  · have HZ := Lib.hid (szVecS_big v n x y z w h hbig hmax)
    go_enter Try.func11, Try.ntmps11
    go_wp2_with (go_at_call 40; refine HZ.out.mono ?_; rintro e w' ⟨rfl, rfl⟩)
    go_ret
    exact ⟨rfl, Below.refl _ _⟩
  · have hn : n ≤ 1048576 := by omega
    have hn1 : (n : Int) ≤ 1048576 := by omega
    have hB : Below w.heap.size w w := Below.refl _ _
    have HZ := Lib.hid (szVecS_ok v n x y z w h hn)
    go_enter Try.func11, Try.ntmps11
    go_wp2_with fail
    refine HZ.out.mono ?_
    rintro e w' ⟨rfl, rfl⟩
    go_wp2_with fail
    clear HZ hn1
    refine (toVecS_any _ n x y z _ h hn).mono ?_
    rintro e w1 ⟨v1, rfl, h1, hb⟩
    have h01 := h.keep hb
    replace hB := b_keep hb hB
    clear hb h
    go_wp2_with fail
    refine (boundS v1 n x y z w1 h1 hn).mono ?_
    rintro e w2 ⟨rfl, hb⟩
    have h02 := h01.keep hb
    replace hB := b_keep hb hB
    clear hb h01 h1
    go_wp2_with fail
    have h03 := h02.keep (below1 w2 (.cells #[.int .i64 (bpL x n), .int .i64 (bpL y n), .int .i64 (bpL z n), .int .i64 (bpH x n), .int .i64 (bpH y n), .int .i64 (bpH z n)] 28))
    clear h02
    revert h03
    have g0 := hB.size
    have b0 := Blk.new w2 28 #[.int .i64 (bpL x n), .int .i64 (bpL y n), .int .i64 (bpL z n), .int .i64 (bpH x n), .int .i64 (bpH y n), .int .i64 (bpH z n)]
    replace hB := hB.alloc hB.size (.cells #[.int .i64 (bpL x n), .int .i64 (bpL y n), .int .i64 (bpL z n), .int .i64 (bpH x n), .int .i64 (bpH y n), .int .i64 (bpH z n)] 28)
    generalize w2.heap.size = q0 at b0 g0  ⊢
    generalize w2.alloc (.cells #[.int .i64 (bpL x n), .int .i64 (bpL y n), .int .i64 (bpL z n), .int .i64 (bpH x n), .int .i64 (bpH y n), .int .i64 (bpH z n)] 28) = W0 at hB b0 ⊢
    have c0 := b0.cell
    have f0 := b0.frozen
    have l0 := b0.lt
    intro h03
    refine (toVecS_any _ n x y z _ h03 hn).mono ?_
    rintro e w1 ⟨v2, rfl, h2, hb⟩
    have h04 := h03.keep hb
    replace hB := b_keep hb hB
    replace b0 : Blk w1 _ _ _ := Blk.keep hb b0
    clear hb h03 c0 f0 l0
    go_wp2_with fail
    refine (boundI v2 n x y z w1 h2 hn).mono ?_
    rintro e w2 ⟨rfl, hb⟩
    have h05 := h04.keep hb
    have h25 := h2.keep hb
    replace hB := b_keep hb hB
    replace b0 : Blk w2 _ _ _ := Blk.keep hb b0
    clear hb h04 h2
    have c0 := b0.cell
    have f0 := b0.frozen
    have l0 := b0.lt
    go_wp2_with fail
    have h06 := h05.keep (below1 w2 (.cells #[.int .i64 (bpL x n), .int .i64 (bpL y n), .int .i64 (bpL z n), .int .i64 (bpH x n), .int .i64 (bpH y n), .int .i64 (bpH z n)] 28))
    have h26 := h25.keep (below1 w2 (.cells #[.int .i64 (bpL x n), .int .i64 (bpL y n), .int .i64 (bpL z n), .int .i64 (bpH x n), .int .i64 (bpH y n), .int .i64 (bpH z n)] 28))
    clear h05 h25
    revert h06 h26
    have d1_0 := b0.lt
    have g1 := hB.size
    replace b0 := b0.alloc (.cells #[.int .i64 (bpL x n), .int .i64 (bpL y n), .int .i64 (bpL z n), .int .i64 (bpH x n), .int .i64 (bpH y n), .int .i64 (bpH z n)] 28)
    have b1 := Blk.new w2 28 #[.int .i64 (bpL x n), .int .i64 (bpL y n), .int .i64 (bpL z n), .int .i64 (bpH x n), .int .i64 (bpH y n), .int .i64 (bpH z n)]
    replace hB := hB.alloc hB.size (.cells #[.int .i64 (bpL x n), .int .i64 (bpL y n), .int .i64 (bpL z n), .int .i64 (bpH x n), .int .i64 (bpH y n), .int .i64 (bpH z n)] 28)
    clear c0 f0 l0
    generalize w2.heap.size = q1 at b1 g1 d1_0 ⊢
    generalize w2.alloc (.cells #[.int .i64 (bpL x n), .int .i64 (bpL y n), .int .i64 (bpL z n), .int .i64 (bpH x n), .int .i64 (bpH y n), .int .i64 (bpH z n)] 28) = W1 at hB b0 b1 ⊢
    have c0 := b0.cell
    have f0 := b0.frozen
    have l0 := b0.lt
    have c1 := b1.cell
    have f1 := b1.frozen
    have l1 := b1.lt
    intro h06 h26
    refine (eqBox_same _ _ _ _ _ _ _).mono ?_
    rintro e w1 ⟨rfl, hb⟩
    have h07 := h06.keep hb
    have h27 := h26.keep hb
    replace hB := b_keep hb hB
    clear hb h06 h26 b0 b1 c0 c1 f0 f1 l0 l1
    cases decide (0 < n)
    all_goals
      go_wp2_with fail
      refine (toVecS_any _ n x y z _ h07 hn).mono ?_
      rintro e w2 ⟨v3, rfl, h3, hb⟩
      have h28 := h27.keep hb
      replace hB := b_keep hb hB
      clear hb h07 h27
      go_wp2_with fail
      refine (eqVecS_same v2 v3 n x y z w2 h28 h3 hn).mono ?_
      rintro e w1 ⟨rfl, hb⟩
      replace hB := b_keep hb hB
      clear hb h28 h3
      go_wp2
      go_ret
      exact ⟨rfl, hB⟩

set_option maxRecDepth 100000 in
theorem FnExactBoundPoints_run {H : Type} {enc : TypeId × Value → H} (W : World) (base : Nat) (args : Array Value) (ds : List (DataW H)) (p : List MemPlace)
    (hl : args.toList.length = Try.f11.params.toList.length)
    (hval : ∀ (j : Nat) t v, Try.f11.params[j]? = some t → args[j]? = some v → Value.okWide Try.prog W .any base t v)
    (hA : DataW.TrodAll enc Try.prog W 0 (fun _ => true) true Try.f11.params.toList args.toList ds p) :
    Calls Try.prog 11 args W fun e w' => e = .returned (.bool true) ∧ Below W.heap.size W w' := by
  rw [Try.params11] at hl hval hA
  obtain ⟨v0, d0, rfl, rfl, h0⟩ := trodAll_one hA
  obtain ⟨n, x, y, z, hx, hm⟩ := open_tri Try.underlying68 Try.underlying23 (by kernel_rfl) (by kernel_rfl) (by kernel_rfl) (by kernel_rfl) (by kernel_rfl) (hval 0 68 v0 rfl rfl) h0
  exact lawBoundPoints v0 n x y z W hx hm

set_option maxRecDepth 100000 in
theorem FnExactBoundPoints_lifted (os : Os) (started : os.Started) (H : Type) (enc : TypeId × Value → H) :
    ReturnsInHanded {} Try.checked os 11 .any (Rows.fnExactBoundPointsSpec.pre6 enc Try.prog Try.f11 Rows.fnExactBoundPointsRow.domain false) (Rows.fnExactBoundPointsSpec.post enc Try.prog Try.f11 false true false false) := by
  refine returnsInHanded_of_change (C := Try.checked) own started (by kernel_rfl) Try.func11
    (ChangeSpec.witness6 (enc := enc) (C := Try.checked) false ⟨#[], #[.slice none 0 0], []⟩ 8 (by kernel_rfl) (by kernel_rfl) (by kernel_rfl) (by kernel_rfl)) ?_
  intro W base args ds gs before hval hW _ _
  exact Fr.contract (P := Try.prog) (tb := 4) laidOut (by kernel_rfl) rfl rfl (by kernel_rfl) (fun ds hl => by match ds, hl with | [_], _ => rfl) FnExactBoundPoints_run W base args ds gs before hval hW

theorem FnExactBoundPoints_holds : Rows.FnExactBoundPointsSaid :=
  OpenClaim.holds_of_wide 11 Try.f11 rfl rfl rfl rfl rfl rfl rfl ⟨rfl, rfl, rfl, rfl, rfl⟩ rfl rfl rfl rfl rfl (by kernel_rfl) Try.func11 (by kernel_rfl)
    (of_decide_eq_true (by kernel_rfl)) (by unfold Func.isWrapper; first | (rw [if_pos (by decide +kernel)]; kernel_rfl) | (rw [if_neg (by decide +kernel)]; exact ⟨rfl, rfl⟩))
    (fun os started H enc _ => FnExactBoundPoints_lifted os started H enc)
#print axioms FnExactBoundPoints_holds
end Go.Proofs.Ytobfccoljijnkaa
