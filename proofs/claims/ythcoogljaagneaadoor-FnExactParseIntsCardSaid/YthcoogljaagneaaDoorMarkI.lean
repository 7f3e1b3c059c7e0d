/- The laws' marks on slices of ints. -/
import Derived.Test.YthcoogljaagneaaDoorParL
import Derived.Deep.QuietTactic
import Derived.BigQuiet
namespace Go.Proofs.YthcoogljaagneaaDoor
open Go Go.RowKit

def nums (k n : Nat) : List Int := (List.range n).map fun i => ((k + i : Nat) : Int)
theorem nums_len (k n : Nat) : (nums k n).length = n := by simp [nums]
theorem nums_at {k n i : Nat} (h : i < n) : (nums k n)[i]?.getD 0 = ((k + i : Nat) : Int) := by simp [nums, h]
theorem nums_step {k j : Nat} {xs : List Int} (h : j < xs.length) : (nums k j ++ xs.drop j).set j ((k + j : Nat) : Int) = nums k (j + 1) ++ xs.drop (j + 1) := by
  rw [List.set_append_right _ _ (by rw [nums_len]; exact Nat.le_refl _), nums_len, Nat.sub_self, List.drop_eq_getElem_cons h, List.set_cons_zero]
  simp [nums, List.range_succ]
theorem nums_lens {k j : Nat} {xs : List Int} (h : j ≤ xs.length) : (nums k j ++ xs.drop j).length = xs.length := by
  rw [List.length_append, nums_len, List.length_drop]; omega
theorem OwnInts.set_ {w : World} {B j g cap : Nat} {xs : List Int} (h : OwnInts w B (.slice (some ⟨g, 0, none⟩) xs.length cap) xs) (hj : j < xs.length) (x : Int) :
    OwnInts (w.setCell ⟨g, j, none⟩ (.int .i64 x)) B (.slice (some ⟨g, 0, none⟩) xs.length cap) (xs.set j x) := by
  obtain ⟨a, cap', hv, hcap, hc⟩ := h
  obtain ⟨rfl, -, rfl⟩ : some ⟨g, 0, none⟩ = a ∧ True ∧ cap = cap' := by injection hv with h1 h2 h3; exact ⟨h1, trivial, h3⟩
  obtain ⟨g', hg, hB, hlt, hcell⟩ := hc (by omega)
  obtain rfl : g = g' := by injection hg with hg; injection hg
  refine ⟨some ⟨g, 0, none⟩, cap, by rw [List.length_set], by rw [List.length_set]; exact hcap, fun _ => ⟨g, rfl, hB, by simpa [World.setCell] using hlt, fun i hi => ?_⟩⟩
  rw [List.length_set] at hi
  obtain ⟨c1, c2⟩ := hcell i hi
  refine ⟨?_, by simpa using c2⟩
  by_cases hij : i = j
  · subst hij
    rw [List.getElem?_set_self hi, World.cell?_setCell_same' _ _ _ (by rw [c1]; rfl)]
    rfl
  · rw [List.getElem?_set_ne (fun e => hij e.symm), World.cell?_setCell_other _ _ _ _ (fun e => by injection e with _ e2 _; exact hij e2.symm)]
    exact c1
def MarkIRes (B k : Nat) (v : Value) (n : Nat) (w : World) (e : Ending) (w' : World) : Prop := e = .returned (.int .i64 ((k + n : Nat) : Int)) ∧ OwnInts w' B v (nums k n) ∧ Below B w w'
set_option maxHeartbeats 1000000 in
theorem markIntS_any (B k : Nat) (v : Value) (xs : List Int) (w : World) (h : OwnInts w B v xs) (hn : xs.length + k ≤ 4194304) :
    Calls Tryd.prog 34 #[v, .int .i64 k] w (MarkIRes B k v xs.length w) := by
  have h0 := h
  obtain ⟨a, cap, rfl, hcap, hc⟩ := h
  have hB0 : Below B w w := Below.refl _ _
  have HC : Hid (0 < xs.length → ∃ g, a = some ⟨g, 0, none⟩ ∧ B ≤ g) := Lib.hid (fun h0 => by
    obtain ⟨g, h1, h2, _⟩ := hc h0
    exact ⟨g, h1, h2⟩)
  have H0 := Lib.hid h0
  clear hc h0
  go_enter Tryd.func34, Tryd.ntmps34
  go_wp2
  go_loopw [1, 5] (fun m i wr => ∃ j : Nat, j ≤ xs.length ∧ i = .int .i64 j ∧ m = .int .i64 ((k + j : Nat) : Int) ∧ OwnInts wr B (.slice a xs.length cap) (nums k j ++ xs.drop j) ∧ Below B w wr) (fun _ i _ => xs.length - (intOf i).toNat)
  case atStart => exact ⟨0, by omega, rfl, rfl, H0.out, hB0⟩
  case round =>
    obtain ⟨j, hj, rfl, rfl, hown, hbl⟩ := hrel
    clear H0 hB0
    by_cases hlt : j < xs.length
    · obtain ⟨g, rfl, hBg⟩ := HC.out (by omega)
      have hj0 : (0 : Int) ≤ (j : Int) := by omega
      have hj1 : (j : Int) < (xs.length : Int) := by omega
      have HO := Lib.hid hown
      have hml := nums_lens (k := k) (xs := xs) hj
      obtain ⟨a', cap', hv, hcap', hc⟩ := hown
      obtain ⟨g', hg, _, hgl, hcell⟩ := hc (by omega)
      obtain rfl : g = g' := by injection hv with h1; rw [hg] at h1; injection h1 with h1; injection h1
      obtain ⟨c1, c2⟩ := hcell j (by omega)
      clear hc hcell hv hml hcap' hg
      generalize (nums k j ++ xs.drop j)[j]?.getD 0 = x at c1
      go_wp2
      go_roundw
      case rel =>
        refine ⟨j + 1, by omega, by go_num, by go_num, ?_, hbl.setCell (by dsimp only; omega) _⟩
        have h2 := HO.out
        have hml := nums_lens (k := k) (xs := xs) hj
        rw [← hml] at h2
        have h3 := h2.set_ (j := j) (by rw [hml]; exact hlt) ((k + j : Nat) : Int)
        rw [nums_step hlt, hml] at h3
        exact h3
      case measure => simp [intOf]; omega
    · obtain rfl : j = xs.length := by omega
      rw [List.drop_length, List.append_nil] at hown
      have HO := Lib.hid hown
      clear hown
      go_wp2
      go_ret
      exact ⟨rfl, HO.out, hbl⟩
set_option maxHeartbeats 1000000 in
theorem heldIntS_any (k n : Nat) (v : Value) (w : World) (h : IntsAt w v (nums k n)) (hn : n + k ≤ 4194304) :
    Calls Tryd.prog 35 #[v, .int .i64 k] w fun e w' => e = .returned (.int .i64 ((k + n : Nat) : Int)) ∧ Below w.heap.size w w' := by
  obtain ⟨a, cap, rfl, hc⟩ := h
  rw [nums_len] at hc ⊢
  have HC := Lib.hid hc
  have hB0 : Below w.heap.size w w := Below.refl _ _
  clear hc
  go_enter Tryd.func35, Tryd.ntmps35
  go_wp2
  go_loopw [1, 5] (fun m i wr => ∃ j : Nat, j ≤ n ∧ i = .int .i64 j ∧ m = .int .i64 ((k + j : Nat) : Int) ∧ ∃ nq, wr = w.drewN nq) (fun _ i _ => n - (intOf i).toNat)
  case atStart => exact ⟨0, by omega, rfl, rfl, 0, rfl⟩
  case round =>
    obtain ⟨j, hj, rfl, rfl, nq, rfl⟩ := hrel
    by_cases hlt : j < n
    · obtain ⟨b, off, rfl, hbl, hcell⟩ := HC.out (by omega)
      have c1 := hcell j hlt
      rw [nums_at hlt] at c1
      have hj0 : (0 : Int) ≤ (j : Int) := by omega
      have hj1 : (j : Int) < (n : Int) := by omega
      clear HC hcell
      go_wp2
      go_roundw
      case rel => exact ⟨j + 1, by omega, by go_num, by go_num, _, rfl⟩
      case measure => simp [intOf]; omega
    · obtain rfl : j = n := by omega
      go_wp2
      go_ret
      exact ⟨rfl, below_drewN hB0 _⟩
end Go.Proofs.YthcoogljaagneaaDoor
