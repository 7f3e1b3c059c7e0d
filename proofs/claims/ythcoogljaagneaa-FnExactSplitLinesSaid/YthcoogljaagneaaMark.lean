/- The marks that the laws write into results: markText. -/
import Derived.Test.YthcoogljaagneaaBlk
import Derived.Test.YthcoogljaagneaaByt
import Derived.Test.YthcoogljaagneaaNum
import Derived.Lib.Hide
import Derived.WalkSpells
import Derived.WalkLawsBesides
import Derived.Outline
namespace Go.Proofs.Ythcoogljaagneaa
open Go.RowKit

/-- The digits of k ahead of l. -/
def digs (k : Nat) (l : List UInt8) : List UInt8 :=
  if h : k = 0 then l else digs (k / 10) (digC (k % 10) :: l)
termination_by k
decreasing_by omega
theorem digs_zero (l : List UInt8) : digs 0 l = l := by rw [digs, dif_pos rfl]
theorem digs_pos {k : Nat} (h : ¬ k = 0) (l : List UInt8) : digs k l = digs (k / 10) (digC (k % 10) :: l) := by rw [digs, dif_neg h]
def markB (k : Nat) : ByteArray := ⟨(109 :: digs k []).toArray⟩
set_option maxHeartbeats 1000000 in
theorem markText_any (k : Nat) (hk : 1 ≤ k) (hk2 : k ≤ 4194304) (w : World) : Calls Try.prog 18 #[.int .i64 k] w fun e w' => e = .returned (.string (markB k)) ∧ Below w.heap.size w w' := by
  have hB0 := Below.refl w.heap.size w
  have h1 : (1 : Int) ≤ (k : Int) := by omega
  go_enter Try.func18, Try.ntmps18
  go_wp2
  clear h1
  go_loopw [0, 3] (fun a s wr => ∃ (j : Nat) (t : ByteArray), a = .int .i64 j ∧ s = .string t ∧ j ≤ 4194304 ∧ t.size + j ≤ 4194304 ∧ digs j t.data.toList = digs k [] ∧ Below w.heap.size w wr) (fun a _ _ => (intOf a).toNat)
  case atStart => exact ⟨k, ⟨#[]⟩, rfl, rfl, hk2, by show 0 + k ≤ _; omega, rfl, hB0⟩
  case round =>
    obtain ⟨j, t, rfl, rfl, hj, hts, hd, hB⟩ := hrel
    have HD := Lib.hid hd
    clear hd hB0
    by_cases hz : j = 0
    · subst hz
      go_wp2
      go_ret
      have hz := HD.out
      rw [digs_zero] at hz
      exact ⟨ret_str (bytes_ext (by rw [data_app, hz]; rfl)), hB⟩
    · have hj0 : (0 : Int) < (j : Int) := by omega
      have hcv := digit_back wr j
      have hsz := hB.size
      go_wp2
      go_roundw
      case rel => exact ⟨j / 10, ⟨#[digC (j % 10)]⟩ ++ t, by go_num, rfl, by omega, by rw [size_app]; show 1 + t.size + _ ≤ _; omega, by rw [← HD.out, digs_pos hz, data_app]; rfl, hB.alloc hsz _⟩
      case measure => simp [intOf]; omega
end Go.Proofs.Ythcoogljaagneaa
