/- IsValidSubPatch, of the program and of the reference. -/
import Derived.Test.YtadjnmldgnaabaaNum
import Derived.Test.YtadjnmldgnaabaaBlk
import Derived.Lib.Hide
import Derived.Laws.BitsAllLaws
import Derived.Laws.BitsLemmas
namespace Go.Proofs.Ytadjnmldgnaabaa
open Go.RowKit

/-- A power of 2 from 1 to 64. -/
def pw (n : Int) : Bool := decide (n = 1 ∨ n = 2 ∨ n = 4 ∨ n = 8 ∨ n = 16 ∨ n = 32 ∨ n = 64)
/-- A part of a patch. -/
def subOk (u v n : Int) : Bool := pw n && (inB u 0 (n - 1) && inB v 0 (n - 1))
theorem pw_bd {n : Int} (h : pw n = true) : 1 ≤ n ∧ n ≤ 64 := by unfold pw at h; simp at h; omega
theorem pw_out {n : Int} (h : inB n 1 64 = false) : pw n = false := by
  have h1 := inB_not h
  cases hp : pw n
  · rfl
  · have := pw_bd hp; omega

theorem ofInt_i64 (a : Nat) (ha : a < 9223372036854775808) : (BitVec.ofInt 64 (a : Int)).toNat = a := by
  rw [BitVec.ofInt_natCast, BitVec.toNat_ofNat]; exact Nat.mod_eq_of_lt (by omega)
theorem i64_and_nat (a b : Nat) (ha : a < 9223372036854775808) (hb : b < 9223372036854775808) : bits .and .i64 (a : Int) (b : Int) = ((a &&& b : Nat) : Int) := by
  have hx : a &&& b < 2 ^ 63 := Nat.and_lt_two_pow _ (by omega)
  show IntKind.i64.wrap ((BitVec.ofInt 64 (a : Int) &&& BitVec.ofInt 64 (b : Int)).toNat : Int) = _
  rw [BitVec.toNat_and, ofInt_i64 a ha, ofInt_i64 b hb, IntKind.wrap_i64]
  omega
theorem and_pw_nat : ∀ k : Fin 65, 1 ≤ k.val → ((k.val &&& (k.val - 1) == 0) = decide (k.val = 1 ∨ k.val = 2 ∨ k.val = 4 ∨ k.val = 8 ∨ k.val = 16 ∨ k.val = 32 ∨ k.val = 64)) := by decide +kernel
theorem and_pw {n : Int} (h1 : 1 ≤ n) (h2 : n ≤ 64) : (bits .and .i64 n (n - 1) == 0) = pw n := by
  obtain ⟨k, rfl⟩ := Int.eq_ofNat_of_zero_le (by omega : 0 ≤ n)
  have e : ((k : Int) - 1) = ((k - 1 : Nat) : Int) := by omega
  have h := and_pw_nat ⟨k, by omega⟩ (by show 1 ≤ k; omega)
  rw [e, i64_and_nat k (k - 1) (by omega) (by omega)]
  have e2 : (((k &&& (k - 1) : Nat) : Int) == 0) = (k &&& (k - 1) == 0) := by
    rw [Bool.eq_iff_iff]; simp
  rw [e2]
  simp only at h
  rw [h]
  unfold pw
  congr 1
  simp only [eq_iff_iff]
  omega

set_option maxHeartbeats 1000000 in
theorem isValidSubI (u v n : Int) (w : World) :
    Calls Try.prog 16 #[.agg #[.int .i64 (u), .int .i64 (v), .int .i64 (n)]] w fun e w' => e = .returned (.bool (subOk u v n)) ∧ Below w.heap.size w w' := by
  have hB := below1 w (.cells #[.int .i64 (u), .int .i64 (v), .int .i64 (n)] 26)
  cases h : inB n 1 64
  · have hs : subOk u v n = false := by unfold subOk; rw [pw_out h]; rfl
    go_enter Try.func16, Try.ntmps16
    go_wp2_with (go_at_call 22; refine (within_any _ _ _ _).mono ?_; rintro e w' ⟨rfl, rfl⟩)
    go_ret
    exact ⟨ret_bool hs.symm, hB⟩
  · obtain ⟨h1, h2⟩ := inB_iff.1 h
    have hand := and_pw h1 h2
    cases hp : pw n
    · rw [hp] at hand
      have hs : subOk u v n = false := by unfold subOk; rw [hp]; rfl
      have HS := Lib.hid hs
      clear hs hp
      go_enter Try.func16, Try.ntmps16
      go_wp2_with (go_at_call 22; refine (within_any _ _ _ _).mono ?_; rintro e w' ⟨rfl, rfl⟩)
      go_ret
      exact ⟨ret_bool HS.out.symm, hB⟩
    · rw [hp] at hand
      cases hu : inB u 0 (n - 1)
      all_goals cases hv : inB v 0 (n - 1)
      all_goals
        have HS := Lib.hid (show subOk u v n = (pw n && (inB u 0 (n - 1) && inB v 0 (n - 1))) from rfl)
        go_enter Try.func16, Try.ntmps16
        go_wp2_with (go_at_call 22; refine (within_any _ _ _ _).mono ?_; rintro e w' ⟨rfl, rfl⟩)
        go_ret
        exact ⟨ret_bool (by rw [HS.out, hp, hu, hv]; rfl), hB⟩
def pwl : Nat → Int → Bool
  | 0, _ => false
  | j + 1, n => pwl j n || decide ((2 : Int) ^ j = n)
theorem pwl7 (n : Int) : pwl 7 n = pw n := by
  rw [Bool.eq_iff_iff]; simp [pwl, pw]; omega
set_option maxHeartbeats 4000000 in
theorem isValidSubS (u v n : Int) (w : World) :
    Calls Try.prog 15 #[.agg #[.int .i64 (u), .int .i64 (v), .int .i64 (n)]] w fun e w' => e = .returned (.bool (subOk u v n)) ∧ Below w.heap.size w w' := by
  have hB := below1 w (.cells #[.int .i64 (u), .int .i64 (v), .int .i64 (n)] 26)
  go_enter Try.func15, Try.ntmps15
  go_wp2
  go_loop [3, 4] (fun p m => ∃ j : Nat, j ≤ 7 ∧ p = .bool (pwl j n) ∧ m = .int .i64 (2 ^ j)) (fun _ m => (128 - intOf m).toNat)
  case atStart => exact ⟨0, by omega, rfl, rfl⟩
  case round =>
    obtain ⟨j, hj, rfl, rfl⟩ := hrel
    rcases (by omega : j = 7 ∨ j < 7) with rfl | hlt
    · rw [pwl7]
      have hs : subOk u v n = (pw n && (inB u 0 (n - 1) && inB v 0 (n - 1))) := rfl
      cases hp : pw n
      · rw [hp] at hs
        have HS := Lib.hid hs
        clear hs
        go_wp2_with fail
        go_ret
        exact ⟨ret_bool HS.out.symm, hB⟩
      · obtain ⟨h1, h2⟩ := pw_bd hp
        rw [hp] at hs
        cases hu : inB u 0 (n - 1)
        all_goals cases hv : inB v 0 (n - 1)
        all_goals
          rw [hu, hv] at hs
          have HS := Lib.hid hs
          clear hs hp
          go_wp2_with (go_at_call 25; refine (l01In_any _ _ _ _).mono ?_; rintro e w' ⟨rfl, rfl⟩)
          go_ret
          exact ⟨ret_bool (by rw [HS.out]; rfl), hB⟩
    · have hj2 : (1 : Int) ≤ 2 ^ j ∧ (2 : Int) ^ j ≤ 64 := by
        rcases (by omega : j = 0 ∨ j = 1 ∨ j = 2 ∨ j = 3 ∨ j = 4 ∨ j = 5 ∨ j = 6) with rfl | rfl | rfl | rfl | rfl | rfl | rfl <;> decide
      have HM := Lib.hid (show (2 : Int) ^ (j + 1) = 2 * 2 ^ j by rw [Int.pow_succ]; omega)
      have HP := Lib.hid (show pwl (j + 1) n = (pwl j n || decide ((2 : Int) ^ j = n)) from rfl)
      generalize hm : (2 : Int) ^ j = m at *
      clear hm
      obtain ⟨m1, m2⟩ := hj2
      cases hp : pwl j n
      · go_wp2
        go_round
        case rel => exact ⟨j + 1, by omega, by rw [HP.out, hp]; simp; rfl, by rw [HM.out]⟩
        case measure => simp [intOf]; omega
      · go_wp2
        go_round
        case rel => exact ⟨j + 1, by omega, by rw [HP.out, hp]; rfl, by rw [HM.out]⟩
        case measure => simp [intOf]; omega
end Go.Proofs.Ytadjnmldgnaabaa
