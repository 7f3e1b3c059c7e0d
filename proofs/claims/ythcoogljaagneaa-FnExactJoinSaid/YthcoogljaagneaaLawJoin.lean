/- Join: the program's function and the reference's give the same text, for all slices of strings and separators; the argument stays as it was. No condition. -/
import Derived.Test.YthcoogljaagneaaBase
import Derived.Test.YthcoogljaagneaaJoinT
import Derived.Test.YthcoogljaagneaaStrC
namespace Go.Proofs.Ythcoogljaagneaa
open Go.ChangeShapes Go.WideShapes Go.ChangeAt Go.RowKit
open Go.ChangeMaps (open_string)

set_option maxHeartbeats 1000000 in
theorem lawJoin (v : Value) (ss : List ByteArray) (p : ByteArray) (w : World) (h : StrsAt w v ss) (hm : ss.length ≤ maxLen) (hz : ∀ i : Nat, (ss[i]?.getD ByteArray.empty).size ≤ maxLen) (hp : p.size ≤ maxLen) :
    Calls Try.prog 5 #[v, .string p] w fun e w' => e = .returned (.bool true) ∧ Below w.heap.size w w' := by
  unfold maxLen at hm hz hp
  by_cases hbig : 1048576 < (p.size : Int)
  · go_enter Try.func5, Try.ntmps5
    go_wp2
    go_ret
    exact ⟨rfl, Below.refl _ _⟩
  have hp1 : p.size ≤ 1048576 := by omega
  have hB := Below.refl w.heap.size w
  have HZ := Lib.hid (szStringS_any v ss w h hm hz)
  clear hz
  go_enter Try.func5, Try.ntmps5
  go_wp2_with fail
  refine HZ.out.mono ?_
  rintro e w1 ⟨r, rfl, hr, rfl⟩
  by_cases hr0 : r < 0
  · go_wp2
    go_ret
    exact ⟨rfl, hB⟩
  · have hsum := hr (by omega)
    clear hr HZ
    go_wp2_with fail
    refine (toStringS_any v ss w h (by omega)).mono ?_
    rintro e w1 ⟨a1, rfl, h1, hb⟩
    replace h := h.keep hb
    replace hB := b_keep hb hB
    clear hb
    go_wp2_with fail
    refine (joinS _ ss p w1 h1 (by omega) (by omega) (by omega)).mono ?_
    rintro e w' ⟨rfl, rfl⟩
    clear h1
    go_wp2_with fail
    refine (toStringS_any v ss w1 h (by omega)).mono ?_
    rintro e w2 ⟨a2, rfl, h2, hb⟩
    replace h := h.keep hb
    replace hB := b_keep hb hB
    clear hb
    go_wp2_with fail
    refine (joinI _ ss p w2 h2 (fun a n c e => by injection e with _ e2 e3; omega) (by omega) (by omega) (by omega)).mono ?_
    rintro e w3 ⟨rfl, hb⟩
    replace h := h.keep hb
    replace h2 := h2.keep hb
    replace hB := b_keep hb hB
    clear hb
    go_wp2_with fail
    refine (toStringS_any v ss w3 h (by omega)).mono ?_
    rintro e w4 ⟨a3, rfl, h3, hb⟩
    replace h2 := h2.keep hb
    replace hB := b_keep hb hB
    clear hb h
    go_wp2_with fail
    refine (eqStringS_same _ _ ss w4 h2 h3 (by omega)).mono ?_
    rintro e w5 ⟨rfl, hb⟩
    replace hB := b_keep hb hB
    clear hb h2 h3
    go_wp2
    go_ret
    exact ⟨rfl, hB⟩

theorem open_strS {H : Type} {enc : TypeId × Value → H} {W : World} {base : Nat} {v : Value} {d : DataW H} {p : List MemPlace} (hv : Value.okWide Try.prog W .any base 22 v)
    (hd : DataW.Trod enc Try.prog W 0 (fun _ => true) true 22 v d p) : ∃ ss : List ByteArray, StrsAt W v ss ∧ ss.length ≤ maxLen ∧ ∀ i : Nat, (ss[i]?.getD ByteArray.empty).size ≤ maxLen := by
  obtain ⟨a, len, cap, rfl⟩ := okWide_slice Try.underlying22 hv
  obtain ⟨fuel, hf⟩ := hd
  rcases open_strings Try.underlying22 Try.underlying9 (by kernel_rfl) hf with ⟨hcs, _⟩ | ⟨x, l, c, zs, hcs, _, hl, hm, hz, _, hcell, hwz⟩
  · simp [Value.cells] at hcs
    obtain ⟨rfl, rfl, rfl⟩ := hcs
    exact ⟨[], ⟨none, 0, rfl, fun h => by simp at h⟩, by simp, fun i => by simp⟩
  · simp [Value.cells] at hcs
    obtain ⟨rfl, rfl, rfl⟩ := hcs
    rw [if_pos rfl] at hz
    have hlen : (zs.take len).length = len := by simp; omega
    refine ⟨zs.take len, ⟨some x, cap, by rw [hlen], fun h0 => ?_⟩, by omega, fun i => ?_⟩
    · rw [hlen] at h0
      obtain ⟨b, off, spot⟩ := x
      have hc0 := hcell 0 (by omega)
      have hspot : spot = none := by simpa [Addr.add] using World.cell?_spot hc0
      subst hspot
      refine ⟨b, off, rfl, World.block_lt_of_cell? W _ hc0, fun i hi => ?_⟩
      rw [hlen] at hi
      have h := hcell i (by omega)
      have ha : Addr.add ⟨b, off, none⟩ i = ⟨b, off + i, none⟩ := by
        unfold Addr.add
        split
        · rename_i h0'; rw [h0', Nat.add_zero]
        · rfl
      rw [ha] at h
      rw [List.getElem?_take, if_pos hi]
      rwa [List.getD_eq_getElem?_getD] at h
    · cases he : (zs.take len)[i]? with
      | none => simp
      | some s => exact hwz s (List.mem_of_mem_take (List.mem_of_getElem? he))

set_option maxRecDepth 100000 in
theorem FnExactJoin_run {H : Type} {enc : TypeId × Value → H} (W : World) (base : Nat) (args : Array Value) (ds : List (DataW H)) (p : List MemPlace)
    (hl : args.toList.length = Try.f5.params.toList.length)
    (hval : ∀ (j : Nat) t v, Try.f5.params[j]? = some t → args[j]? = some v → Value.okWide Try.prog W .any base t v)
    (hA : DataW.TrodAll enc Try.prog W 0 (fun _ => true) true Try.f5.params.toList args.toList ds p) :
    Calls Try.prog 5 args W fun e w' => e = .returned (.bool true) ∧ Below W.heap.size W w' := by
  rw [Try.params5] at hl hval hA
  obtain ⟨v0, v1, d0, d1, p0, p1, rfl, rfl, rfl, h0, h1⟩ := trodAll_two hA
  obtain ⟨ss, hx, hm, hz⟩ := open_strS (hval 0 22 v0 rfl rfl) h0
  obtain ⟨q, rfl, rfl, rfl, hq⟩ := open_string Try.underlying9 (hval 1 9 v1 rfl rfl) h1
  exact lawJoin v0 ss q W hx hm hz hq

set_option maxRecDepth 100000 in
theorem FnExactJoin_lifted (os : Os) (started : os.Started) (H : Type) (enc : TypeId × Value → H) :
    ReturnsInHanded {} Try.checked os 5 .any (Rows.fnExactJoinSpec.pre6 enc Try.prog Try.f5 Rows.fnExactJoinRow.domain false) (Rows.fnExactJoinSpec.post enc Try.prog Try.f5 false true false false) := by
  refine returnsInHanded_of_change (C := Try.checked) own started (by kernel_rfl) Try.func5
    (ChangeSpec.witness6 (enc := enc) (C := Try.checked) false ⟨#[], #[.slice none 0 0, .string ByteArray.empty], []⟩ 8 (by kernel_rfl) (by kernel_rfl) (by kernel_rfl) (by kernel_rfl)) ?_
  intro W base args ds gs before hval hW _ _
  exact Fr.contract (P := Try.prog) (tb := 4) laidOut (by kernel_rfl) rfl rfl (by kernel_rfl) (fun ds hl => by match ds, hl with | [_, _], _ => rfl) FnExactJoin_run W base args ds gs before hval hW

theorem FnExactJoin_holds : Rows.FnExactJoinSaid :=
  OpenClaim.holds_of_wide 5 Try.f5 rfl rfl rfl rfl rfl rfl rfl ⟨rfl, rfl, rfl, rfl, rfl⟩ rfl rfl rfl rfl rfl (by kernel_rfl) Try.func5 (by kernel_rfl)
    (of_decide_eq_true (by kernel_rfl)) (by unfold Func.isWrapper; first | (rw [if_pos (by decide +kernel)]; kernel_rfl) | (rw [if_neg (by decide +kernel)]; exact ⟨rfl, rfl⟩))
    (fun os started H enc _ => FnExactJoin_lifted os started H enc)
#print axioms FnExactJoin_holds
end Go.Proofs.Ythcoogljaagneaa
