/- The laws' own comparison, marks, copies and measure of slices of strings. -/
import Derived.Test.YthcoogljaagneaaStrs
import Derived.Test.YthcoogljaagneaaMark
import Derived.Test.YthcoogljaagneaaNum
import Derived.Deep.QuietTactic
import Derived.BigQuiet
import Derived.Laws.MakeOwn
import Derived.Deep.RegionHeld3
import Derived.WalkSpells
import Derived.WalkLawsBesides
import Derived.Outline
namespace Go.Proofs.Ythcoogljaagneaa
open Go.RowKit

set_option maxHeartbeats 1000000 in
theorem eqStringS_same (v1 v2 : Value) (ss : List ByteArray) (w : World) (h1 : StrsAt w v1 ss) (h2 : StrsAt w v2 ss) (hn : ss.length ≤ 4194304) :
    Calls Try.prog 8 #[v1, v2] w fun e w' => e = .returned (.bool true) ∧ Below w.heap.size w w' := by
  obtain ⟨a1, cap1, rfl, hc1⟩ := h1
  obtain ⟨a2, cap2, rfl, hc2⟩ := h2
  have hB0 : Below w.heap.size w w := Below.refl _ _
  go_enter Try.func8, Try.ntmps8
  go_wp2
  go_loopw [5] (fun j wr => ∃ k : Nat, k ≤ ss.length ∧ j = .int .i64 k ∧ ∃ nq, wr = w.drewN nq) (fun j _ => ss.length - (intOf j).toNat)
  case atStart => exact ⟨0, by omega, rfl, 0, rfl⟩
  case round =>
    obtain ⟨k, hk, rfl, nq, rfl⟩ := hrel
    by_cases hlt : k < ss.length
    · obtain ⟨b1, o1, rfl, _, c1⟩ := hc1 (by omega)
      obtain ⟨b2, o2, rfl, _, c2⟩ := hc2 (by omega)
      have d1 := c1 k hlt
      have d2 := c2 k hlt
      clear c1 c2 hc1 hc2
      generalize ss[k]?.getD ByteArray.empty = x at d1 d2
      have hk0 : (0 : Int) ≤ (k : Int) := by omega
      have hk1 : (k : Int) < (ss.length : Int) := by omega
      go_wp2_with fail
      go_quiet (fail)
      go_wp2
      go_roundw
      case rel => exact ⟨k + 1, by omega, by go_num, _, rfl⟩
      case measure => simp [intOf]; omega
    · go_wp2
      go_ret
      exact ⟨rfl, below_drewN hB0 _⟩

/-- The marks from number k on. -/
def marksFrom (k n : Nat) : List ByteArray := (List.range n).map fun i => markB (k + i)
theorem marksFrom_len (k n : Nat) : (marksFrom k n).length = n := by simp [marksFrom]
theorem marksFrom_at {k n i : Nat} (h : i < n) : (marksFrom k n)[i]?.getD ByteArray.empty = markB (k + i) := by simp [marksFrom, h]
theorem marks_step {k j : Nat} {ss : List ByteArray} (h : j < ss.length) : (marksFrom k j ++ ss.drop j).set j (markB (k + j)) = marksFrom k (j + 1) ++ ss.drop (j + 1) := by
  rw [List.set_append_right _ _ (by rw [marksFrom_len]; exact Nat.le_refl _), marksFrom_len, Nat.sub_self, List.drop_eq_getElem_cons h, List.set_cons_zero]
  simp [marksFrom, List.range_succ]
theorem marks_len {k j : Nat} {ss : List ByteArray} (h : j ≤ ss.length) : (marksFrom k j ++ ss.drop j).length = ss.length := by
  rw [List.length_append, marksFrom_len, List.length_drop]; omega
theorem OwnStrs.set_ {w : World} {B j g cap : Nat} {ss : List ByteArray} (h : OwnStrs w B (.slice (some ⟨g, 0, none⟩) ss.length cap) ss) (hj : j < ss.length) (x : ByteArray) :
    OwnStrs (w.setCell ⟨g, j, none⟩ (.string x)) B (.slice (some ⟨g, 0, none⟩) ss.length cap) (ss.set j x) := by
  obtain ⟨a, cap', hv, hcap, hc⟩ := h
  obtain ⟨rfl, -, rfl⟩ : some ⟨g, 0, none⟩ = a ∧ True ∧ cap = cap' := by injection hv with h1 h2 h3; exact ⟨h1, trivial, h3⟩
  obtain ⟨g', hg, hB, hlt, hcell⟩ := hc (by omega)
  obtain rfl : g = g' := by injection hg with hg; injection hg
  refine ⟨some ⟨g, 0, none⟩, cap, by rw [List.length_set], by rw [List.length_set]; exact hcap, fun _ => ⟨g, rfl, hB, by simpa [World.setCell] using hlt, fun i hi => ?_⟩⟩
  rw [List.length_set] at hi
  obtain ⟨c1, c2⟩ := hcell i hi
  refine ⟨?_, by simpa using c2⟩
  by_cases hij : i = j
  · subst hij
    rw [List.getElem?_set_self hi, World.cell?_setCell_same' _ _ _ (by rw [c1]; rfl)]
    rfl
  · rw [List.getElem?_set_ne (fun e => hij e.symm), World.cell?_setCell_other _ _ _ _ (fun e => by injection e with _ e2 _; exact hij e2.symm)]
    exact c1
def MarkRes (B k : Nat) (v : Value) (n : Nat) (w : World) (e : Ending) (w' : World) : Prop := e = .returned (.int .i64 ((k + n : Nat) : Int)) ∧ OwnStrs w' B v (marksFrom k n) ∧ Below B w w'
set_option maxHeartbeats 1000000 in
theorem markStringS_any (B k : Nat) (v : Value) (ss : List ByteArray) (w : World) (h : OwnStrs w B v ss) (hB : B ≤ w.heap.size) (hk : 1 ≤ k) (hn : ss.length + k ≤ 4194304) :
    Calls Try.prog 9 #[v, .int .i64 k] w (MarkRes B k v ss.length w) := by
  have h0 := h
  obtain ⟨a, cap, rfl, hcap, hc⟩ := h
  have hB0 : Below B w w := Below.refl _ _
  have HC : Hid (0 < ss.length → ∃ g, a = some ⟨g, 0, none⟩ ∧ B ≤ g) := Lib.hid (fun h0 => by
    obtain ⟨g, h1, h2, _⟩ := hc h0
    exact ⟨g, h1, h2⟩)
  have H0 := Lib.hid h0
  clear hc h0
  go_enter Try.func9, Try.ntmps9
  go_wp2
  go_loopw [1, 5] (fun m i wr => ∃ j : Nat, j ≤ ss.length ∧ i = .int .i64 j ∧ m = .int .i64 ((k + j : Nat) : Int) ∧ OwnStrs wr B (.slice a ss.length cap) (marksFrom k j ++ ss.drop j) ∧ Below B w wr) (fun _ i _ => ss.length - (intOf i).toNat)
  case atStart => exact ⟨0, by omega, rfl, rfl, H0.out, hB0⟩
  case round =>
    obtain ⟨j, hj, rfl, rfl, hown, hbl⟩ := hrel
    clear H0 hB0
    by_cases hlt : j < ss.length
    · obtain ⟨g, rfl, hBg⟩ := HC.out (by omega)
      have hj0 : (0 : Int) ≤ (j : Int) := by omega
      have hj1 : (j : Int) < (ss.length : Int) := by omega
      have HO := Lib.hid hown
      clear hown
      go_wp2_with fail
      refine (markText_any (k + j) (by omega) (by omega) _).mono ?_
      rintro e w1 ⟨rfl, hb⟩
      have hown1 := HO.out.keep hb
      replace hbl := hbl.trans (hb.mono (Nat.le_trans hB hbl.size))
      have hml := marks_len (k := k) (ss := ss) hj
      obtain ⟨a', cap', hv, hcap', hc⟩ := hown1
      obtain ⟨g', hg, _, hgl, hcell⟩ := hc (by omega)
      obtain rfl : g = g' := by injection hv with h1; rw [hg] at h1; injection h1 with h1; injection h1
      obtain ⟨c1, c2⟩ := hcell j (by omega)
      have HO1 := Lib.hid (HO.out.keep hb)
      clear hc hcell hb HO hv hml hcap' hg
      generalize (marksFrom k j ++ ss.drop j)[j]?.getD ByteArray.empty = x at c1
      go_wp2
      go_roundw
      case rel =>
        refine ⟨j + 1, by omega, by go_num, by go_num, ?_, hbl.setCell (by dsimp only; omega) _⟩
        have h2 := HO1.out
        have hml := marks_len (k := k) (ss := ss) hj
        rw [← hml] at h2
        have h3 := h2.set_ (j := j) (by rw [hml]; exact hlt) (markB (k + j))
        rw [marks_step hlt, hml] at h3
        exact h3
      case measure => simp [intOf]; omega
    · obtain rfl : j = ss.length := by omega
      rw [List.drop_length, List.append_nil] at hown
      have HO := Lib.hid hown
      clear hown
      go_wp2
      go_ret
      exact ⟨rfl, HO.out, hbl⟩
/-- A cell with a string, in a block that is there. -/
def StrAt (w : World) (b o : Nat) (s : ByteArray) : Prop := b < w.heap.size ∧ w.cell? ⟨b, o, none⟩ = some (.string s)
theorem StrAt.cell {w : World} {b o : Nat} {s : ByteArray} (h : StrAt w b o s) : w.cell? ⟨b, o, none⟩ = some (.string s) := h.2
theorem StrAt.keep {W w1 : World} {b o : Nat} {s : ByteArray} (hb : Below W.heap.size W w1) (h : StrAt W b o s) : StrAt w1 b o s := ⟨Nat.lt_of_lt_of_le h.1 hb.size, (hb.cell (p := ⟨b, o, none⟩) h.1).trans h.2⟩
theorem StrAt.drew {w : World} {b o : Nat} {s : ByteArray} (h : StrAt w b o s) : StrAt w.drew b o s := h
set_option maxHeartbeats 1000000 in
theorem heldStringS_any (k n : Nat) (v : Value) (w : World) (h : StrsAt w v (marksFrom k n)) (hk : 1 ≤ k) (hn : n + k ≤ 4194304) :
    Calls Try.prog 10 #[v, .int .i64 k] w fun e w' => e = .returned (.int .i64 ((k + n : Nat) : Int)) ∧ Below w.heap.size w w' := by
  obtain ⟨a, cap, rfl, hc⟩ := h
  rw [marksFrom_len] at hc ⊢
  have HC := Lib.hid hc
  have hB0 : Below w.heap.size w w := Below.refl _ _
  clear hc
  go_enter Try.func10, Try.ntmps10
  go_wp2
  go_loopw [1, 5] (fun m i wr => ∃ j : Nat, j ≤ n ∧ i = .int .i64 j ∧ m = .int .i64 ((k + j : Nat) : Int) ∧ Below w.heap.size w wr) (fun _ i _ => n - (intOf i).toNat)
  case atStart => exact ⟨0, by omega, rfl, rfl, hB0⟩
  case round =>
    obtain ⟨j, hj, rfl, rfl, hB⟩ := hrel
    clear hB0
    by_cases hlt : j < n
    · obtain ⟨b, off, rfl, hbl, hcell⟩ := HC.out (by omega)
      have c1 := hcell j hlt
      rw [marksFrom_at hlt] at c1
      have hS : StrAt wr b (off + j) (markB (k + j)) := ⟨Nat.lt_of_lt_of_le hbl hB.size, (hB.cell (p := ⟨b, off + j, none⟩) hbl).trans c1⟩
      have hj0 : (0 : Int) ≤ (j : Int) := by omega
      have hj1 : (j : Int) < (n : Int) := by omega
      clear HC hcell c1
      go_wp2_with fail
      go_region_held3 (fun w' => w'.cell? ⟨b, off + j, none⟩ = some (.string (markB (k + j))))
        (first | with_reducible exact hS.cell | with_reducible exact hS.drew.cell)
        (first
          | (go_at_call 18; refine (markText_any (k + j) (by omega) (by omega) _).mono ?_; rintro e w1 ⟨rfl, hb⟩; replace hB := (by with_reducible first | exact b_keep hb hB | exact b_keep hb hB.drew); replace hS := (by with_reducible first | exact StrAt.keep hb hS | exact StrAt.keep hb hS.drew)))
      go_wp2
      go_roundw
      case rel => exact ⟨j + 1, by omega, by go_num, by go_num, hB⟩
      case measure => simp [intOf]; omega
    · obtain rfl : j = n := by omega
      go_wp2
      go_ret
      exact ⟨rfl, hB⟩
end Go.Proofs.Ythcoogljaagneaa
