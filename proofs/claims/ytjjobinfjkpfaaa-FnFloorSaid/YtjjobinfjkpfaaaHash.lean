/- HashInts, of the program and of the reference. -/
import Derived.Test.YtjjobinfjkpfaaaInts
namespace Go.Proofs.Ytjjobinfjkpfaaa
open Go.RowKit

/-- One step of the hash. -/
def hstep (h x : Int) : Int := (31 * h + clampZ x (-1000000000) 1000000000) % 1000003
def hashL : List Int → Int → Int
  | [], h => h
  | x :: xs, h => hashL xs (hstep h x)
def hashTo (xs : List Int) (k : Nat) : Int := hashL (xs.take k) 17
theorem hashL_snoc (xs : List Int) (x h : Int) : hashL (xs ++ [x]) h = hstep (hashL xs h) x := by
  induction xs generalizing h with
  | nil => rfl
  | cons y ys ih => exact ih _
theorem hashTo_succ (xs : List Int) {k : Nat} (hk : k < xs.length) : hashTo xs (k + 1) = hstep (hashTo xs k) (xs[k]'hk) := by
  unfold hashTo
  rw [List.take_add_one, List.getElem?_eq_getElem hk]
  exact hashL_snoc _ _ _
theorem hstep_bd (h x : Int) : 0 ≤ hstep h x ∧ hstep h x < 1000003 := by unfold hstep; omega
theorem hashTo_bd (xs : List Int) (k : Nat) : 0 ≤ hashTo xs k ∧ hashTo xs k < 1000003 := by
  by_cases hk : k = 0
  · subst hk; simp [hashTo, hashL]
  · obtain ⟨j, rfl⟩ : ∃ j, k = j + 1 := ⟨k - 1, by omega⟩
    by_cases hj : j < xs.length
    · rw [hashTo_succ xs hj]; exact hstep_bd _ _
    · unfold hashTo
      rw [List.take_of_length_le (by omega)]
      rcases List.eq_nil_or_concat xs with rfl | ⟨ys, y, rfl⟩
      · simp [hashL]
      · rw [List.concat_eq_append, hashL_snoc]; exact hstep_bd _ _
theorem clamp_bd (x : Int) : -1000000000 ≤ clampZ x (-1000000000) 1000000000 ∧ clampZ x (-1000000000) 1000000000 ≤ 1000000000 := by unfold clampZ; omega
theorem fd_mod {n : Int} : n - fdZ n 1000003 * 1000003 = n % 1000003 := by unfold fdZ; rw [if_neg (by omega)]; omega

set_option maxHeartbeats 400000 in
theorem floorMod_hash (n : Int) (h1 : -1000000000000 ≤ n) (h2 : n ≤ 1000000000000) (w : World) :
    Calls Try.prog 11 #[.int .i64 n, .int .i64 1000003] w fun e w' => e = .returned (.int .i64 (n % 1000003)) ∧ w = w' := by
  have hq : fdZ n 1000003 = n / 1000003 := fdZ_pos (by omega)
  have H := Lib.hid (floorI n 1000003 (by omega) (by omega))
  have h3 : -1000000000000 ≤ fdZ n 1000003 ∧ fdZ n 1000003 ≤ 1000000000000 := by rw [hq]; omega
  have h4 := fd_mod (n := n)
  have h5 : -2000000000000 ≤ fdZ n 1000003 * 1000003 ∧ fdZ n 1000003 * 1000003 ≤ 2000000000000 := by omega
  have H4 := Lib.hid h4
  clear hq h4
  obtain ⟨h31, h32⟩ := h3
  obtain ⟨h51, h52⟩ := h5
  go_enter Try.func11, Try.ntmps11
  go_wp2_with (go_at_call 5; refine (H.out _).mono ?_; rintro e w' ⟨rfl, rfl⟩)
  go_ret
  exact ⟨ret_int H4.out, rfl⟩
set_option maxHeartbeats 1000000 in
theorem hashI (v : Value) (xs : List Int) (w : World) (h1 : IntsAt w v xs) (hn : xs.length ≤ 1048576) :
    Calls Try.prog 6 #[v] w fun e w' => e = .returned (.int .i64 (hashTo xs xs.length)) ∧ w = w' := by
  obtain ⟨a, cap, rfl, hc⟩ := h1
  go_enter Try.func6, Try.ntmps6
  go_wp2
  go_loop [3, 8] (fun h j => ∃ k : Nat, k ≤ xs.length ∧ j = .int .i64 k ∧ h = .int .i64 (hashTo xs k)) (fun _ j => xs.length - (intOf j).toNat)
  case atStart => exact ⟨0, by omega, rfl, rfl⟩
  case round =>
    obtain ⟨k, hk, rfl, rfl⟩ := hrel
    by_cases hlt : k < xs.length
    · obtain ⟨b, off, rfl, _, hcell⟩ := hc (by omega)
      have d1 := hcell k hlt
      have hb := hashTo_bd xs k
      have hcl := clamp_bd (xs[k]'hlt)
      have HS := Lib.hid (hashTo_succ xs hlt)
      have HF := Lib.hid (floorMod_hash (31 * hashTo xs k + clampZ (xs[k]'hlt) (-1000000000) 1000000000) (by omega) (by omega))
      obtain ⟨hb1, hb2⟩ := hb
      obtain ⟨hc1, hc2⟩ := hcl
      clear hc hcell
      go_wp2_with (first | (go_at_call 8; refine (clampI _ _ _ _).mono ?_; rintro e w' ⟨rfl, rfl⟩) | (go_at_call 11; with_reducible refine (HF.out _).mono ?_; rintro e w' ⟨rfl, rfl⟩))
      go_round
      case rel => exact ⟨k + 1, by omega, by go_num, by rw [HS.out]; rfl⟩
      case measure => simp [intOf]; omega
    · obtain rfl : k = xs.length := by omega
      go_wp2
      go_ret
      exact ⟨rfl, rfl⟩
end Go.Proofs.Ytjjobinfjkpfaaa
