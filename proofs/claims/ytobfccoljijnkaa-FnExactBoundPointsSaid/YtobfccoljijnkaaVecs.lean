/- The laws' own copies and comparison of slices of vectors. -/
import Derived.Test.YtobfccoljijnkaaTri
import Derived.Test.YtobfccoljijnkaaVec3
import Derived.Laws.MakeOwn
import Derived.WalkSmall
namespace Go.Proofs.Ytobfccoljijnkaa
open Go.RowKit

theorem Thr.of {w : World} {b o : Nat} {x y z : Int} (h : Three w b o x y z) (hlt : b < w.heap.size) : Thr w b o x y z := ⟨hlt, h⟩
theorem infoVec : (Try.prog.info? 26).map (fun i => (i.zero, i.size, i.bytes)) = some (some (.agg #[.int .i64 (0), .int .i64 (0), .int .i64 (0)]), 3, 24) := by kernel_rfl
def zeros3 (n : Nat) : Array Value := madeCells #[.int .i64 (0), .int .i64 (0), .int .i64 (0)] (n * 3)
theorem zeros3_at {n j : Nat} (h : j < n * 3) : (zeros3 n)[j]? = some (.int .i64 0) := by
  have h3 : j % 3 = 0 ∨ j % 3 = 1 ∨ j % 3 = 2 := by omega
  rcases h3 with h3 | h3 | h3 <;> simp [zeros3, madeCells, h, h3]
theorem makeVecs (n : Nat) (hn : n ≤ 1048576) (W : World) :
    (Instr.makeSlice 72 (.int .i64 (n : Int)) (.int .i64 (n : Int))).run Try.prog W = .ok (.slice (some ⟨W.heap.size, 0, none⟩) n n) (W.alloc (.cells (zeros3 n) 26)) := by
  obtain ⟨i, hi, hz, hs, hb⟩ := info_parts infoVec
  have h := run_make (P := Try.prog) W 72 26 i (.agg #[.int .i64 (0), .int .i64 (0), .int .i64 (0)]) Try.underlying72 hi hz .i64 .i64 n n (by omega) (by omega) (by rw [hb]; omega) (by omega)
  rw [h, hs]
  simp only [Int.toNat_natCast]
  rfl
/-- The first k structs copied, the rest still zero. -/
def Copied (cs : Array Value) (n k : Nat) (x y z : Nat → Int) : Prop :=
  (∀ i, i < k → cs[i * 3]? = some (.int .i64 (x i)) ∧ cs[i * 3 + 1]? = some (.int .i64 (y i)) ∧ cs[i * 3 + 2]? = some (.int .i64 (z i))) ∧
  ∀ j, k * 3 ≤ j → j < n * 3 → cs[j]? = some (.int .i64 0)
theorem Copied.step {cs : Array Value} {n k : Nat} {x y z : Nat → Int} (h : Copied cs n k x y z) (hk : k < n) :
    Copied (((cs.setIfInBounds (k * 3) (.int .i64 (x k))).setIfInBounds (k * 3 + 1) (.int .i64 (y k))).setIfInBounds (k * 3 + 2) (.int .i64 (z k))) n (k + 1) x y z := by
  have hs : k * 3 + 2 < cs.size := by
    have := h.2 (k * 3 + 2) (by omega) (by omega)
    exact (Array.getElem?_eq_some_iff.1 this).1
  have hs1 : k * 3 + 1 < cs.size := by omega
  have hs0 : k * 3 < cs.size := by omega
  refine ⟨fun i hi => ?_, fun j h1 h2 => ?_⟩
  · by_cases hik : i = k
    · subst hik
      simp [hs, hs0, hs1]
    · obtain ⟨a, b, c⟩ := h.1 i (by omega)
      simp only [Array.getElem?_setIfInBounds]
      refine ⟨?_, ?_, ?_⟩
      · rw [if_neg (by omega), if_neg (by omega), if_neg (by omega)]; exact a
      · rw [if_neg (by omega), if_neg (by omega), if_neg (by omega)]; exact b
      · rw [if_neg (by omega), if_neg (by omega), if_neg (by omega)]; exact c
  · simp only [Array.getElem?_setIfInBounds]
    rw [if_neg (by omega), if_neg (by omega), if_neg (by omega)]
    exact h.2 j (by omega) h2
/-- The copy of a slice of vectors: its elements in a new block. -/
def CopyV (n : Nat) (x y z : Nat → Int) (w : World) (e : Ending) (w' : World) : Prop := ∃ v, e = .returned v ∧ TriAt w' v n x y z ∧ Below w.heap.size w w'
theorem triAt_of_blk {w : World} {g : Nat} {t : TypeId} {n : Nat} {x y z : Nat → Int} {cs : Array Value} (h : Blk w g t cs) (hc : Copied cs n n x y z) : TriAt w (.slice (some ⟨g, 0, none⟩) n n) n x y z := by
  refine ⟨_, _, rfl, Nat.le_refl _, fun _ => ⟨g, 0, rfl, h.lt, fun i hi => ?_⟩⟩
  obtain ⟨a, b, c⟩ := hc.1 i hi
  rw [Nat.zero_add]
  exact ⟨(h.cell _).trans a, (h.cell _).trans b, (h.cell _).trans c⟩
set_option maxHeartbeats 2000000 in
theorem toVecS_any (v : Value) (n : Nat) (x y z : Nat → Int) (w : World) (h1 : TriAt w v n x y z) (hn : n ≤ 1048576) : Calls Try.prog 42 #[v] w (CopyV n x y z w) := by
  obtain ⟨a, cap, rfl, hcap, hc⟩ := h1
  have hmk := makeVecs n hn
  have hB0 := below1 w (.cells (zeros3 n) 26)
  have b00 := Blk.new w 26 (zeros3 n)
  go_enter Try.func42, Try.ntmps42
  go_wp2
  clear hmk
  generalize w.alloc (.cells (zeros3 n) 26) = W0 at hB0 b00 ⊢
  have B00 := Lib.hid b00
  have HC := Lib.hid hc
  clear b00 hc
  go_loopw [4] (fun j wr => ∃ k : Nat, k ≤ n ∧ j = .int .i64 k ∧ (∃ cs, Blk wr w.heap.size 26 cs ∧ Copied cs n k x y z) ∧ Below w.heap.size w wr) (fun j _ => n - (intOf j).toNat)
  case atStart => exact ⟨0, by omega, rfl, ⟨_, B00.out, fun i hi => absurd hi (by omega), fun j _ hj => zeros3_at hj⟩, hB0⟩
  case round =>
    obtain ⟨k, hk, rfl, ⟨cs, b0, hcs⟩, hB⟩ := hrel
    clear hB0 B00
    by_cases hlt : k < n
    · obtain ⟨b, off, rfl, hbl, hcell⟩ := HC.out (by omega)
      obtain ⟨d0, d1, d2⟩ := (hcell k hlt).keep hB hbl
      have HS := Lib.hid hcs
      clear HC hcell hcs
      have hk0 : (0 : Int) ≤ (k : Int) := by omega
      have hk1 : (k : Int) < (n : Int) := by omega
      go_wp2_with fail
      refine (toVec_any _ _ _ _).mono ?_
      rintro e w1 ⟨rfl, hb⟩
      replace hB := b_keep hb hB
      replace b0 : Blk w1 _ _ _ := Blk.keep hb b0
      clear hb d0 d1 d2
      have e0 := (b0.cell (k * 3)).trans (HS.out.2 (k * 3) (by omega) (by omega))
      have e1 := (b0.cell (k * 3 + 1)).trans (HS.out.2 (k * 3 + 1) (by omega) (by omega))
      have e2 := (b0.cell (k * 3 + 2)).trans (HS.out.2 (k * 3 + 2) (by omega) (by omega))
      have f0 := b0.frozen
      have B0 := Lib.hid b0
      clear b0
      go_wp2
      go_roundw
      case rel => exact ⟨k + 1, by omega, by go_num, ⟨_, ((B0.out.set_ (k * 3) _).set_ (k * 3 + 1) _).set_ (k * 3 + 2) _, HS.out.step hlt⟩, ((hB.setCell (by dsimp only; omega) _).setCell (by dsimp only; omega) _).setCell (by dsimp only; omega) _⟩
      case measure => simp [intOf]; omega
    · obtain rfl : k = n := by omega
      have B0 := Lib.hid b0
      clear b0
      go_wp2
      go_ret
      exact ⟨_, rfl, triAt_of_blk B0.out hcs, hB⟩
set_option maxHeartbeats 2000000 in
theorem eqVecS_same (v1 v2 : Value) (n : Nat) (x y z : Nat → Int) (w : World) (h1 : TriAt w v1 n x y z) (h2 : TriAt w v2 n x y z) (hn : n ≤ 1048576) :
    Calls Try.prog 44 #[v1, v2] w fun e w' => e = .returned (.bool true) ∧ Below w.heap.size w w' := by
  obtain ⟨a1, cap1, rfl, _, hc1⟩ := h1
  obtain ⟨a2, cap2, rfl, _, hc2⟩ := h2
  have hB0 : Below w.heap.size w w := Below.refl _ _
  have HC1 := Lib.hid hc1
  have HC2 := Lib.hid hc2
  clear hc1 hc2
  go_enter Try.func44, Try.ntmps44
  go_wp2
  go_loopw [5] (fun j wr => ∃ k : Nat, k ≤ n ∧ j = .int .i64 k ∧ Below w.heap.size w wr) (fun j _ => n - (intOf j).toNat)
  case atStart => exact ⟨0, by omega, rfl, hB0⟩
  case round =>
    obtain ⟨k, hk, rfl, hB⟩ := hrel
    clear hB0
    by_cases hlt : k < n
    · obtain ⟨b1, o1, rfl, l1, c1⟩ := HC1.out (by omega)
      obtain ⟨b2, o2, rfl, l2, c2⟩ := HC2.out (by omega)
      have hT1 : Thr wr b1 (o1 + k * 3) (x k) (y k) (z k) := ⟨Nat.lt_of_lt_of_le l1 hB.size, (c1 k hlt).keep hB l1⟩
      have hT2 : Thr wr b2 (o2 + k * 3) (x k) (y k) (z k) := ⟨Nat.lt_of_lt_of_le l2 hB.size, (c2 k hlt).keep hB l2⟩
      clear c1 c2 HC1 HC2
      have hk0 : (0 : Int) ≤ (k : Int) := by omega
      have hk1 : (k : Int) < (n : Int) := by omega
      go_wp2_with fail
      go_region_held3 (fun w' => (w'.cell? ⟨b1, o1 + k * 3, none⟩ = some (.int .i64 (x k)) ∧ w'.cell? ⟨b1, o1 + k * 3 + 1, none⟩ = some (.int .i64 (y k)) ∧ w'.cell? ⟨b1, o1 + k * 3 + 2, none⟩ = some (.int .i64 (z k))) ∧ (w'.cell? ⟨b2, o2 + k * 3, none⟩ = some (.int .i64 (x k)) ∧ w'.cell? ⟨b2, o2 + k * 3 + 1, none⟩ = some (.int .i64 (y k)) ∧ w'.cell? ⟨b2, o2 + k * 3 + 2, none⟩ = some (.int .i64 (z k))))
        (first | with_reducible exact ⟨hT1.cells, hT2.cells⟩ | with_reducible exact ⟨hT1.drew.cells, hT2.drew.cells⟩)
        (first
          | (go_at_call 29; refine (eqVec_same (x k) (y k) (z k) _).mono ?_; rintro e w1 ⟨rfl, hb⟩; replace hB := (by with_reducible first | exact b_keep hb hB | exact b_keep hb hB.drew); replace hT1 := (by with_reducible first | exact Thr.keep hb hT1 | exact Thr.keep hb hT1.drew); replace hT2 := (by with_reducible first | exact Thr.keep hb hT2 | exact Thr.keep hb hT2.drew)))
      go_wp2
      go_roundw
      case rel => exact ⟨k + 1, by omega, by go_num, hB⟩
      case measure => simp [intOf]; omega
    · go_wp2
      go_ret
      exact ⟨rfl, hB⟩
theorem szVecS_big (v : Value) (n : Nat) (x y z : Nat → Int) (w : World) (h : TriAt w v n x y z) (hn : 1048576 < n) (hm : n ≤ 9223372036854775807) :
    Calls Try.prog 40 #[v, .int .i64 1048576] w fun e w' => e = .returned (.int .i64 (-1)) ∧ w = w' := by
  obtain ⟨a, cap, rfl, _, hc⟩ := h
  clear hc
  have h1 : (1048576 : Int) < (n : Int) := by omega
  have h2 : (n : Int) ≤ 9223372036854775807 := by omega
  go_enter Try.func40, Try.ntmps40
  go_wp2
  go_ret
  exact ⟨rfl, rfl⟩
theorem szVecS_ok (v : Value) (n : Nat) (x y z : Nat → Int) (w : World) (h : TriAt w v n x y z) (hn : n ≤ 1048576) :
    Calls Try.prog 40 #[v, .int .i64 1048576] w fun e w' => e = .returned (.int .i64 (1048576 - (n : Int))) ∧ w = w' := by
  obtain ⟨a, cap, rfl, _, hc⟩ := h
  clear hc
  have h1 : (n : Int) ≤ 1048576 := by omega
  go_enter Try.func40, Try.ntmps40
  go_wp2
  go_ret
  exact ⟨rfl, rfl⟩
end Go.Proofs.Ytobfccoljijnkaa
