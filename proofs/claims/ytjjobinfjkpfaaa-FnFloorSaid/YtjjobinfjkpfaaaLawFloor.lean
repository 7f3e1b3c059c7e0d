/- Rounded division and hashing stay within their ranges, for all bytes. No condition. -/
import Derived.Test.YtjjobinfjkpfaaaBase
import Derived.Test.YtjjobinfjkpfaaaOpenB
import Derived.Test.YtjjobinfjkpfaaaNums
import Derived.Test.YtjjobinfjkpfaaaHash
namespace Go.Proofs.Ytjjobinfjkpfaaa
open Go.ChangeShapes Go.WideShapes Go.ChangeAt Go.RowKit

theorem fd_in {a b : Int} (h : 1 ≤ b) : fdZ a b * b ≤ a ∧ a < fdZ a b * b + b := by
  rw [fdZ_pos h]
  have h1 := Int.ediv_mul_le a (b := b) (by omega)
  have h2 := Int.lt_ediv_add_one_mul_self a (b := b) (by omega)
  rw [Int.add_mul, Int.one_mul] at h2
  exact ⟨h1, h2⟩
theorem clamp19 (a : Int) : 1 ≤ clampZ a 1 9 ∧ clampZ a 1 9 ≤ 9 := by unfold clampZ; omega
set_option maxHeartbeats 4000000 in
theorem lawFloor (v : Value) (n : Nat) (bs : Nat → Int) (w : World) (h : BytesAt w w.heap.size v n bs) (hm : n ≤ maxLen) :
    Calls Try.prog 3 #[v] w fun e w' => e = .returned (.bool true) ∧ Below w.heap.size w w' := by
  unfold maxLen at hm
  have h0 := h
  obtain ⟨hbs, a, cap, rfl, hc⟩ := h
  clear hbs hc
  by_cases hbig : 1048576 < (n : Int)
  · clear h0
    go_enter Try.func3, Try.ntmps3
    go_wp2
    go_ret
    exact ⟨rfl, Below.refl _ _⟩
  · have hn : n ≤ 1048576 := by omega
    obtain ⟨i0, hi, hz0, hz1, hz2⟩ := info_parts infoI
    have HI := Lib.hid hi
    clear hi
    go_enter Try.func3, Try.ntmps3
    go_wp2_with fail
    refine (makeNum_any 1 w _ _ n bs (by omega) (by omega) (Nat.le_refl _) hn h0).mono ?_
    rintro e w1 ⟨x, rfl, x0, x1, hb1⟩
    have h1 := h0.keep hb1
    go_wp2_with fail
    refine (makeNum_any 2 w1 _ _ n bs (by omega) (by omega) hb1.size hn h1).mono ?_
    rintro e w2 ⟨y, rfl, y0, y1, hb2⟩
    replace hb2 := hb1.trans (hb2.mono hb1.size)
    have h2 := h0.keep hb2
    clear h1 hb1
    have hy := emod_in (x := y) (m := 50) (by omega)
    obtain ⟨hy0, hy1⟩ := hy
    have hF := floorI (x - 30000) (1 + y % 50) (by omega) (by omega)
    have hQ := fd_in (a := x - 30000) (b := 1 + y % 50) (by omega)
    have HF := Lib.hid hF
    have HQ := Lib.hid hQ
    clear hF hQ
    go_wp2_with fail
    refine (HF.out _).mono ?_
    rintro e w' ⟨rfl, rfl⟩
    go_wp2_with fail
    refine (makeInts_any w2 _ _ n bs hb2.size hn h2).mono ?_
    rintro e w3 ⟨u, xs, rfl, hl, hx, hown, hb3⟩
    have hsz := hb3.size
    have hi := HI.out
    have HX := Lib.hid hx
    have hbase := hown.lt
    have HBS := Lib.hid hbase
    clear hx hbase h2
    go_wp2_with (at_builtin; refine wpList_append_own _ rfl _ _ 26 rfl w2.heap.size 3 i0 (.int .i64 0) 1 8 Try.underlying26 hi hz0 hz1 hz2 rfl (by decide) _ _ _ rfl (hown.alloc _) ⟨w3.heap.size, 0, none⟩ 1 1 [.int .i64 (x - 30000)] rfl rfl (cell_one_new _ _ _) (by simp [Value.oneCell']) (by unfold maxLen; omega) (by omega) (by simp; omega) ?_; intro u2 w4 hown4 hg4 _; have R := intsAt_of_own (xs := xs ++ [x - 30000]) (by simpa using hown4); have RB : Below w.heap.size w w4 := ((hb2.trans (hb3.mono hb2.size)).alloc (Nat.le_trans hb2.size hsz) (.cells #[.int .i64 (x - 30000)] 3)).grown hg4 (by simp; have := hb2.size; omega) (fun k hk => by have := (HBS.out k hk).1; have := hb2.size; omega); clear hown4 hg4 hown; refine Hid.out ?_)
    refine Lib.hid ?_
    have HR := Lib.hid RB
    clear RB
    go_wp2_with fail
    refine (hashI _ (xs ++ [x - 30000]) w4 R (by simp; omega)).mono ?_
    rintro e w' ⟨rfl, rfl⟩
    obtain ⟨q0, q1⟩ := hashTo_bd (xs ++ [x - 30000]) (xs ++ [x - 30000]).length
    generalize hashTo (xs ++ [x - 30000]) (xs ++ [x - 30000]).length = hh at *
    have hcc := clamp19 (x - 30000)
    obtain ⟨k0, k1⟩ := hcc
    obtain ⟨f0, f1⟩ := HQ.out
    have HC := Lib.hid (clampI (x - 30000) 1 9)
    generalize clampZ (x - 30000) 1 9 = cc at *
    generalize fdZ (x - 30000) (1 + y % 50) = qq at *
    clear R HF HQ
    go_wp2_with (go_at_call 8; with_reducible refine (HC.out _).mono ?_; rintro e w' ⟨rfl, rfl⟩)
    go_ret
    exact ⟨rfl, HR.out⟩

set_option maxRecDepth 100000 in
theorem FnFloor_run {H : Type} {enc : TypeId × Value → H} (W : World) (base : Nat) (args : Array Value) (ds : List (DataW H)) (p : List MemPlace)
    (hl : args.toList.length = Try.f3.params.toList.length)
    (hval : ∀ (j : Nat) t v, Try.f3.params[j]? = some t → args[j]? = some v → Value.okWide Try.prog W .any base t v)
    (hA : DataW.TrodAll enc Try.prog W 0 (fun _ => true) true Try.f3.params.toList args.toList ds p) :
    Calls Try.prog 3 args W fun e w' => e = .returned (.bool true) ∧ Below W.heap.size W w' := by
  rw [Try.params3] at hl hval hA
  obtain ⟨v0, d0, rfl, rfl, h0⟩ := trodAll_one hA
  obtain ⟨n, bs, hx, hm⟩ := open_bytes Try.underlying22 Try.underlying5 (by kernel_rfl) (hval 0 22 v0 rfl rfl) h0
  exact lawFloor v0 n bs W hx hm

set_option maxRecDepth 100000 in
theorem FnFloor_lifted (os : Os) (started : os.Started) (H : Type) (enc : TypeId × Value → H) :
    ReturnsInHanded {} Try.checked os 3 .any (Rows.fnFloorSpec.pre6 enc Try.prog Try.f3 Rows.fnFloorRow.domain false) (Rows.fnFloorSpec.post enc Try.prog Try.f3 false true false false) := by
  refine returnsInHanded_of_change (C := Try.checked) own started (by kernel_rfl) Try.func3
    (ChangeSpec.witness6 (enc := enc) (C := Try.checked) false ⟨#[], #[.slice none 0 0], []⟩ 8 (by kernel_rfl) (by kernel_rfl) (by kernel_rfl) (by kernel_rfl)) ?_
  intro W base args ds gs before hval hW _ _
  exact Fr.contract (P := Try.prog) (tb := 4) laidOut (by kernel_rfl) rfl rfl (by kernel_rfl) (fun ds hl => by match ds, hl with | [_], _ => rfl) FnFloor_run W base args ds gs before hval hW

theorem FnFloor_holds : Rows.FnFloorSaid :=
  OpenClaim.holds_of_wide 3 Try.f3 rfl rfl rfl rfl rfl rfl rfl ⟨rfl, rfl, rfl, rfl, rfl⟩ rfl rfl rfl rfl rfl (by kernel_rfl) Try.func3 (by kernel_rfl)
    (of_decide_eq_true (by kernel_rfl)) (by unfold Func.isWrapper; first | (rw [if_pos (by decide +kernel)]; kernel_rfl) | (rw [if_neg (by decide +kernel)]; exact ⟨rfl, rfl⟩))
    (fun os started H enc _ => FnFloor_lifted os started H enc)
#print axioms FnFloor_holds
end Go.Proofs.Ytjjobinfjkpfaaa
