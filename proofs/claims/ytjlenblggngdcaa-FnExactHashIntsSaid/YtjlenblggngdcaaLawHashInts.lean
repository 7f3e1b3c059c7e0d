/- HashInts: the program's function and the reference's give the same hash, for all slices of ints; the argument stays as it was. No condition. -/
import Derived.Test.YtjlenblggngdcaaBase
import Derived.Test.YtjlenblggngdcaaHash
namespace Go.Proofs.Ytjlenblggngdcaa
open Go.ChangeShapes Go.WideShapes Go.ChangeAt Go.RowKit

set_option maxHeartbeats 1000000 in
theorem lawHashInts (v : Value) (xs : List Int) (w : World) (h : IntsAt w v xs) (hmax : xs.length ≤ maxLen) :
    Calls Try.prog 9 #[v] w fun e w' => e = .returned (.bool true) ∧ Below w.heap.size w w' := by
  have h0 := h
  unfold maxLen at hmax
  obtain ⟨a, cap, rfl, hc⟩ := h
  clear hc
  by_cases hbig : 1048576 < (xs.length : Int)
  · go_enter Try.func9, Try.ntmps9
    go_wp2
    go_ret
    exact ⟨rfl, Below.refl _ _⟩
  · have hn : xs.length ≤ 1048576 := by omega
    have hB : Below w.heap.size w w := Below.refl _ _
    go_enter Try.func9, Try.ntmps9
    go_wp2_with fail
    refine (toIntS_any _ xs _ h0 hn).mono ?_
    rintro e w1 ⟨v1, rfl, h1, hb⟩
    have h01 := h0.keep hb
    replace hB := b_keep hb hB
    clear hb h0
    go_wp2_with fail
    refine (hashS v1 xs w1 h1 hn).mono ?_
    rintro e w' ⟨rfl, rfl⟩
    clear h1
    go_wp2_with fail
    refine (toIntS_any _ xs _ h01 hn).mono ?_
    rintro e w2 ⟨v2, rfl, h2, hb⟩
    have h02 := h01.keep hb
    replace hB := b_keep hb hB
    clear hb h01
    go_wp2_with fail
    refine (hashI v2 xs w2 h2 hn).mono ?_
    rintro e w' ⟨rfl, rfl⟩
    go_wp2_with fail
    refine (toIntS_any _ xs _ h02 hn).mono ?_
    rintro e w3 ⟨v3, rfl, h3, hb⟩
    have h23 := h2.keep hb
    replace hB := b_keep hb hB
    clear hb h02 h2
    go_wp2_with fail
    refine (eqIntS_same v2 v3 xs w3 h23 h3 hn).mono ?_
    rintro e w4 ⟨rfl, hb⟩
    replace hB := b_keep hb hB
    clear hb h23 h3
    go_wp2
    go_ret
    exact ⟨rfl, hB⟩

theorem open_intS {H : Type} {enc : TypeId × Value → H} {W : World} {base : Nat} {v : Value} {d : DataW H} {p : List MemPlace} (hv : Value.okWide Try.prog W .any base 49 v)
    (hd : DataW.Trod enc Try.prog W 0 (fun _ => true) true 49 v d p) : ∃ xs : List Int, IntsAt W v xs ∧ xs.length ≤ maxLen := by
  obtain ⟨a, len, cap, rfl⟩ := okWide_slice Try.underlying49 hv
  obtain ⟨fuel, hf⟩ := hd
  rcases open_ints Try.underlying49 Try.underlying3 (by kernel_rfl) hf with ⟨hcs, _⟩ | ⟨x, l, c, zs, hcs, _, hl, hm, hz, _, hcell, hwz⟩
  · simp [Value.cells] at hcs
    obtain ⟨rfl, rfl, rfl⟩ := hcs
    exact ⟨[], ⟨none, 0, rfl, fun h => by simp at h⟩, by simp⟩
  · simp [Value.cells] at hcs
    obtain ⟨rfl, rfl, rfl⟩ := hcs
    rw [if_pos rfl] at hz
    have hlen : (zs.take len).length = len := by simp; omega
    refine ⟨zs.take len, ⟨some x, cap, by rw [hlen], fun h0 => ?_⟩, by omega⟩
    rw [hlen] at h0
    obtain ⟨b, off, spot⟩ := x
    have hc0 := hcell 0 (by omega)
    have hspot : spot = none := by simpa [Addr.add] using World.cell?_spot hc0
    subst hspot
    refine ⟨b, off, rfl, World.block_lt_of_cell? W _ hc0, fun i hi => ?_⟩
    rw [hlen] at hi
    have h := hcell i (by omega)
    have ha : Addr.add ⟨b, off, none⟩ i = ⟨b, off + i, none⟩ := by
      unfold Addr.add
      split
      · rename_i h0'; rw [h0', Nat.add_zero]
      · rfl
    rw [ha] at h
    rw [List.getElem?_take, if_pos hi]
    rwa [List.getD_eq_getElem?_getD] at h

theorem FnExactHashInts_run {H : Type} {enc : TypeId × Value → H} (W : World) (base : Nat) (args : Array Value) (ds : List (DataW H)) (p : List MemPlace)
    (hl : args.toList.length = Try.f9.params.toList.length)
    (hval : ∀ (j : Nat) t v, Try.f9.params[j]? = some t → args[j]? = some v → Value.okWide Try.prog W .any base t v)
    (hA : DataW.TrodAll enc Try.prog W 0 (fun _ => true) true Try.f9.params.toList args.toList ds p) :
    Calls Try.prog 9 args W fun e w' => e = .returned (.bool true) ∧ Below W.heap.size W w' := by
  rw [Try.params9] at hl hval hA
  obtain ⟨v0, d0, rfl, rfl, h0⟩ := trodAll_one hA
  obtain ⟨xs, hx, hm⟩ := open_intS (hval 0 49 v0 rfl rfl) h0
  exact lawHashInts v0 xs W hx hm

set_option maxRecDepth 100000 in
theorem FnExactHashInts_lifted (os : Os) (started : os.Started) (H : Type) (enc : TypeId × Value → H) :
    ReturnsInHanded {} Try.checked os 9 .any (Rows.fnExactHashIntsSpec.pre6 enc Try.prog Try.f9 Rows.fnExactHashIntsRow.domain false) (Rows.fnExactHashIntsSpec.post enc Try.prog Try.f9 false true false false) := by
  refine returnsInHanded_of_change (C := Try.checked) own started (by kernel_rfl) Try.func9
    (ChangeSpec.witness6 (enc := enc) (C := Try.checked) false ⟨#[], #[.slice none 0 0], []⟩ 8 (by kernel_rfl) (by kernel_rfl) (by kernel_rfl) (by kernel_rfl)) ?_
  intro W base args ds gs before hval hW _ _
  exact Fr.contract (P := Try.prog) (tb := 4) laidOut (by kernel_rfl) rfl rfl (by kernel_rfl) (fun ds hl => by match ds, hl with | [_], _ => rfl) FnExactHashInts_run W base args ds gs before hval hW

theorem FnExactHashInts_holds : Rows.FnExactHashIntsSaid :=
  OpenClaim.holds_of_wide 9 Try.f9 rfl rfl rfl rfl rfl rfl rfl ⟨rfl, rfl, rfl, rfl, rfl⟩ rfl rfl rfl rfl rfl (by kernel_rfl) Try.func9 (by kernel_rfl)
    (of_decide_eq_true (by kernel_rfl)) (by unfold Func.isWrapper; first | (rw [if_pos (by decide +kernel)]; kernel_rfl) | (rw [if_neg (by decide +kernel)]; exact ⟨rfl, rfl⟩))
    (fun os started H enc _ => FnExactHashInts_lifted os started H enc)
#print axioms FnExactHashInts_holds
end Go.Proofs.Ytjlenblggngdcaa
