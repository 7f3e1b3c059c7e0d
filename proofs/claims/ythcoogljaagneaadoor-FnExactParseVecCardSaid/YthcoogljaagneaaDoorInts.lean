/- Slices of ints: how a slice reads in memory; the laws' own copy and comparison of such slices. -/
import Derived.Test.YthcoogljaagneaaDoorNum
import Derived.Test.YthcoogljaagneaaDoorBlk
import Derived.Lib.Hide
import Derived.Deep.QuietTactic
import Derived.BigQuiet
import Derived.WalkSmall
import Derived.Laws.MakeOwn
namespace Go.Proofs.YthcoogljaagneaaDoor
open Go.RowKit

/-- The slice value v reads as the ints xs in world w. -/
def IntsAt (w : World) (v : Value) (xs : List Int) : Prop :=
  ∃ (a : Option Addr) (cap : Nat), v = .slice a xs.length cap ∧ (0 < xs.length → ∃ b off, a = some ⟨b, off, none⟩ ∧ b < w.heap.size ∧ ∀ i, i < xs.length → w.cell? ⟨b, off + i, none⟩ = some (.int .i64 (xs[i]?.getD 0)))

theorem IntsAt.keep {w w' : World} {v : Value} {xs : List Int} (h : IntsAt w v xs) (hb : Below w.heap.size w w') : IntsAt w' v xs := by
  obtain ⟨a, cap, rfl, hc⟩ := h
  refine ⟨a, cap, rfl, fun h0 => ?_⟩
  obtain ⟨b, off, rfl, hlt, hcell⟩ := hc h0
  exact ⟨b, off, rfl, Nat.lt_of_lt_of_le hlt hb.size, fun i hi => (hb.cell (p := ⟨b, off + i, none⟩) hlt).trans (hcell i hi)⟩

/-- Each element is an int64. -/
def I64s (xs : List Int) : Prop := ∀ i : Nat, -9223372036854775808 ≤ xs[i]?.getD 0 ∧ xs[i]?.getD 0 ≤ 9223372036854775807

theorem mid {w : World} {b off i : Nat} {x : Int} (h : w.cell? ⟨b, off + i, none⟩ = some (.int .i64 x)) : w.cell? ⟨b, off + i, none⟩ = some (.int .i64 x) := h

set_option maxHeartbeats 1000000 in
theorem eqIntS_same (v1 v2 : Value) (xs : List Int) (w : World) (h1 : IntsAt w v1 xs) (h2 : IntsAt w v2 xs) (hn : xs.length ≤ 4194304) :
    Calls Tryd.prog 17 #[v1, v2] w fun e w' => e = .returned (.bool true) ∧ Below w.heap.size w w' := by
  obtain ⟨a1, cap1, rfl, hc1⟩ := h1
  obtain ⟨a2, cap2, rfl, hc2⟩ := h2
  have hB0 : Below w.heap.size w w := Below.refl _ _
  go_enter Tryd.func17, Tryd.ntmps17
  go_wp2
  go_loopw [5] (fun j wr => ∃ k : Nat, k ≤ xs.length ∧ j = .int .i64 k ∧ ∃ nq, wr = w.drewN nq) (fun j _ => xs.length - (intOf j).toNat)
  case atStart => exact ⟨0, by omega, rfl, 0, rfl⟩
  case round =>
    obtain ⟨k, hk, rfl, nq, rfl⟩ := hrel
    by_cases hlt : k < xs.length
    · obtain ⟨b1, o1, rfl, _, c1⟩ := hc1 (by omega)
      obtain ⟨b2, o2, rfl, _, c2⟩ := hc2 (by omega)
      have d1 := c1 k hlt
      have d2 := c2 k hlt
      clear c1 c2 hc1 hc2
      have hk0 : (0 : Int) ≤ (k : Int) := by omega
      have hk1 : (k : Int) < (xs.length : Int) := by omega
      go_wp2_with fail
      go_quiet (fail)
      go_wp2
      go_roundw
      case rel => exact ⟨k + 1, by omega, by go_num, _, rfl⟩
      case measure => simp [intOf]; omega
    · go_wp2
      go_ret
      exact ⟨rfl, below_drewN hB0 _⟩
/-- n zero cells. -/
def zeros (n : Nat) : Array Value := madeCells #[.int .i64 0] (n * 1)
/-- The first k cells copied, the rest still zero. -/
def mix (xs : List Int) (k : Nat) : Array Value := ((xs.take k ++ List.replicate (xs.length - k) 0).map (Value.int .i64)).toArray
theorem mix_zero (xs : List Int) : zeros xs.length = mix xs 0 := by
  apply Array.ext'
  simp [zeros, mix, madeCells]
  apply List.ext_getElem
  · simp
  · intro i h1 h2
    simp [Nat.mod_one]
theorem mix_size (xs : List Int) {k : Nat} (hk : k ≤ xs.length) : (mix xs k).size = xs.length := by simp [mix]; omega
theorem mix_done (xs : List Int) : mix xs xs.length = (xs.map (Value.int .i64)).toArray := by simp [mix]
theorem mix_at (xs : List Int) {k : Nat} (hk : k < xs.length) : (mix xs k)[k]? = some (.int .i64 0) := by
  have h1 : (xs.take k).length = k := by simp; omega
  simp only [mix, List.getElem?_toArray, List.getElem?_map]
  rw [List.getElem?_append_right (by omega), h1, Nat.sub_self, List.getElem?_replicate]
  rw [if_pos (by omega)]
  rfl
theorem mix_get (xs : List Int) {k : Nat} (hk : k ≤ xs.length) (i : Nat) : (xs.take k ++ List.replicate (xs.length - k) 0)[i]? = if i < k then xs[i]? else if i < xs.length then some 0 else none := by
  have h1 : (xs.take k).length = k := by simp; omega
  by_cases hi : i < k
  · rw [List.getElem?_append_left (by omega), List.getElem?_take, if_pos hi, if_pos hi]
  · rw [List.getElem?_append_right (by omega), h1, List.getElem?_replicate, if_neg hi]
    by_cases h2 : i < xs.length
    · rw [if_pos (by omega), if_pos h2]
    · rw [if_neg (by omega), if_neg h2]
theorem mix_set (xs : List Int) {k : Nat} (hk : k < xs.length) : (mix xs k).setIfInBounds k (.int .i64 (xs[k]'hk)) = mix xs (k + 1) := by
  apply Array.ext'
  simp only [mix, List.setIfInBounds_toArray, List.toList_toArray]
  apply List.ext_getElem?
  intro i
  rw [List.getElem?_set, List.getElem?_map, List.getElem?_map, mix_get xs (by omega), mix_get xs (by omega)]
  by_cases hki : k = i
  · subst hki
    rw [if_pos rfl, if_pos (by simp; omega), if_pos (by omega), List.getElem?_eq_getElem hk]
    rfl
  · rw [if_neg hki]
    by_cases hi : i < k
    · rw [if_pos hi, if_pos (by omega)]
    · rw [if_neg hi, if_neg (show ¬ i < k + 1 by omega)]
theorem intsAt_of_blk {w : World} {g : Nat} {t : TypeId} {xs : List Int} (h : Blk w g t (xs.map (Value.int .i64)).toArray) : IntsAt w (.slice (some ⟨g, 0, none⟩) xs.length xs.length) xs := by
  refine ⟨_, _, rfl, fun _ => ⟨g, 0, rfl, h.lt, fun i hi => ?_⟩⟩
  rw [h.cell]
  simp [hi]
theorem infoInt : (Tryd.prog.info? 3).map (fun i => (i.zero, i.size, i.bytes)) = some (some (.int .i64 0), 1, 8) := by kernel_rfl
theorem makeInts (n : Nat) (hn : n ≤ 1048576) (W : World) :
    (Instr.makeSlice 24 (.int .i64 (n : Int)) (.int .i64 (n : Int))).run Tryd.prog W = .ok (.slice (some ⟨W.heap.size, 0, none⟩) n n) (W.alloc (.cells (zeros n) 3)) := by
  obtain ⟨i, hi, hz, hs, hb⟩ := info_parts infoInt
  have h := run_make (P := Tryd.prog) W 24 3 i (.int .i64 0) Tryd.underlying24 hi hz .i64 .i64 n n (by omega) (by omega) (by rw [hb]; omega) (by omega)
  rw [h, hs]
  simp only [Int.toNat_natCast]
  rfl
/-- The copy of a slice of ints: its elements in a new block. -/
def CopyRes (xs : List Int) (w : World) (e : Ending) (w' : World) : Prop := ∃ v, e = .returned v ∧ IntsAt w' v xs ∧ Below w.heap.size w w'
set_option maxHeartbeats 1000000 in
theorem toIntS_any (v : Value) (xs : List Int) (w : World) (h1 : IntsAt w v xs) (hn : xs.length ≤ 1048576) : Calls Tryd.prog 15 #[v] w (CopyRes xs w) := by
  obtain ⟨a, cap, rfl, hc⟩ := h1
  have hmk := makeInts xs.length hn
  have hB0 := below1 w (.cells (zeros xs.length) 3)
  have b00 := Blk.new w 3 (zeros xs.length)
  go_enter Tryd.func15, Tryd.ntmps15
  go_wp2
  clear hmk
  generalize w.alloc (.cells (zeros xs.length) 3) = W0 at hB0 b00 ⊢
  rw [mix_zero] at b00
  have B00 := Lib.hid b00
  clear b00
  go_loopw [4] (fun j wr => ∃ k : Nat, k ≤ xs.length ∧ j = .int .i64 k ∧ Blk wr w.heap.size 3 (mix xs k) ∧ Below w.heap.size w wr) (fun j _ => xs.length - (intOf j).toNat)
  case atStart => exact ⟨0, by omega, rfl, B00.out, hB0⟩
  case round =>
    obtain ⟨k, hk, rfl, b0, hB⟩ := hrel
    clear hB0 B00
    by_cases hlt : k < xs.length
    · obtain ⟨b, off, rfl, hb, hcell⟩ := hc (by omega)
      have d1 := hcell k hlt
      have d2 : wr.cell? ⟨b, off + k, none⟩ = some (.int .i64 (xs[k]?.getD 0)) := (hB.cell (p := ⟨b, off + k, none⟩) hb).trans d1
      have d3 := b0.cell k
      rw [mix_at xs hlt] at d3
      have f3 := b0.frozen k
      have B0 := Lib.hid b0
      clear hc hcell d1 b0
      have hk0 : (0 : Int) ≤ (k : Int) := by omega
      have hk1 : (k : Int) < (xs.length : Int) := by omega
      go_wp2
      go_roundw
      case rel => exact ⟨k + 1, by omega, by go_num, by rw [← mix_set xs hlt]; exact B0.out.set_ k _, hB.setCell (by dsimp only; omega) _⟩
      case measure => simp [intOf]; omega
    · obtain rfl : k = xs.length := by omega
      rw [mix_done] at b0
      have B0 := Lib.hid b0
      clear b0
      go_wp2
      go_ret
      exact ⟨_, rfl, intsAt_of_blk B0.out, hB⟩
end Go.Proofs.YthcoogljaagneaaDoor
