/- FormatInt, of the program and of the reference: the decimal text. -/
import Derived.Test.YtnibknaemgpjdaaDoorDec
import Derived.Test.YtnibknaemgpjdaaDoorByt
import Derived.Test.YtnibknaemgpjdaaDoorBlk
import Derived.Test.YtnibknaemgpjdaaDoorNum
import Derived.Test.YtnibknaemgpjdaaDoorShelf
import Derived.Lib.Hide
import Derived.WalkSmall
import Derived.WalkSpells
import Derived.WalkLawsBesides
import Derived.Outline
namespace Go.Proofs.YtnibknaemgpjdaaDoor
open Go Go.RowKit Go.Sort
open Go.Lib (decDigits itoa)

theorem var_keep {w w' : World} {n : String} {cs : Array Value} (h : w.var? Tryd.prog n = some cs) (hb : Below w.heap.size w w') : w'.var? Tryd.prog n = some cs := by
  cases hg : (Tryd.prog).globalNamed n with
  | none => simp [World.var?, hg] at h
  | some g =>
    refine var?_below hb hg ?_ h
    rcases Nat.lt_or_ge g w.heap.size with h' | h'
    · exact h'
    · simp [World.var?, hg, Array.getElem?_eq_none h'] at h
/-- The library's table of powers of ten is laid. -/
def Tab (w : World) : Prop := Lib.TabIs Tryd.prog w "internal/strconv.uint64pow10" .u64 Lib.pow10Tab
theorem Tab.keep {w w' : World} (h : Tab w) (hb : Below w.heap.size w w') : Tab w' := var_keep h hb
theorem below_grow (w : World) (k : Nat) (os : Array Obj) : Below w.heap.size w (grow (w.drewN k) os) := by
  refine ⟨rfl, rfl, rfl, ?_, fun j hj => ?_⟩
  · show _ ≤ (w.heap ++ os).size
    simp
  · show (w.heap ++ os)[j]? = _
    exact Array.getElem?_append_left hj
theorem itoaCall (n : Int) (h0 : -9223372036854775808 ≤ n) (h1 : n ≤ 9223372036854775807) (w : World) (hT : Tab w) :
    Calls Tryd.prog 56 #[.int .i64 n] w fun e w' => e = .returned (.string ⟨(itoa n).toArray⟩) ∧ Below w.heap.size w w' := by
  refine (Tryd.strconv_Itoa n h0 h1 w hT).mono ?_
  rintro e w' ⟨rfl, k, os, rfl⟩
  exact ⟨rfl, below_grow _ _ _⟩

set_option maxHeartbeats 1000000 in
theorem fmtI (n : Int) (w : World) (hT : Tab w) :
    Calls Tryd.prog 17 #[.int .i64 n] w fun e w' => e = .returned (.string ⟨(fmtZ n).toArray⟩) ∧ Below w.heap.size w w' := by
  by_cases h1 : n < -1000000000
  · have hf : fmtZ n = [] := fmtZ_out (by unfold inR; simp; omega)
    rw [hf]
    go_enter Tryd.func17, Tryd.ntmps17
    go_wp2
    go_ret
    exact ⟨rfl, Below.refl _ _⟩
  · by_cases h2 : 1000000000 < n
    · have hf : fmtZ n = [] := fmtZ_out (by unfold inR; simp; omega)
      rw [hf]
      go_enter Tryd.func17, Tryd.ntmps17
      go_wp2
      go_ret
      exact ⟨rfl, Below.refl _ _⟩
    · have hf : fmtZ n = itoa n := fmtZ_in (by unfold inR; simp; omega)
      rw [hf]
      have HC := Lib.hid (itoaCall n (by omega) (by omega) w hT)
      clear hf hT
      go_enter Tryd.func17, Tryd.ntmps17
      go_wp2_with (go_at_call 56; refine HC.out.mono ?_; rintro e w' ⟨rfl, hb⟩)
      go_ret
      exact ⟨rfl, hb⟩

theorem itoa_nat (k : Nat) : itoa (k : Int) = decDigits k := by
  unfold itoa
  rw [if_neg (by omega), Int.toNat_natCast]
theorem itoa_neg {n : Int} (h : n < 0) : itoa n = 45 :: itoa (-n) := by
  unfold itoa
  rw [if_pos h, if_neg (by omega)]
  congr 2
  omega
set_option maxHeartbeats 1000000 in
theorem fmtS_nat (k : Nat) (hk : k ≤ 1000000000) (w : World) :
    Calls Tryd.prog 99 #[.int .i64 k] w fun e w' => e = .returned (.string ⟨(itoa (k : Int)).toArray⟩) ∧ Below w.heap.size w w' := by
  have hB0 := Below.refl w.heap.size w
  have hin : inB (k : Int) (-1000000000) 1000000000 = true := inB_iff.2 ⟨by omega, by omega⟩
  have HI := Lib.hid hin
  have h0 : ¬ (k : Int) < 0 := by omega
  clear hin
  go_enter Tryd.func99, Tryd.ntmps99
  go_wp2_with (go_at_call 100; refine (l01In_any _ _ _ _).mono ?_; rw [HI.out]; rintro e w' ⟨rfl, rfl⟩)
  go_loopw [0, 3] (fun a s wr => ∃ (j : Nat) (t : ByteArray), a = .int .i64 j ∧ s = .string t ∧ j ≤ 1000000000 ∧ t.size + j ≤ 1000000000 ∧ decDigits j ++ t.data.toList = decDigits k ∧ Below w.heap.size w wr) (fun a _ _ => (intOf a).toNat)
  case atStart => exact ⟨k, ⟨#[]⟩, rfl, rfl, hk, by show 0 + k ≤ _; omega, by simp, hB0⟩
  case round =>
    obtain ⟨j, t, rfl, rfl, hj, hts, hd, hB⟩ := hrel
    have HD := Lib.hid hd
    have hsz := hB.size
    clear hd hB0 h0
    by_cases hz : j < 10
    · have hz9 : ¬ (9 : Int) < (j : Int) := by omega
      have hcv := digit_back0 wr j hz
      have h3 : (0 : Int) ≤ (j : Int) := by omega
      have h4 : (j : Int) ≤ 9 := by omega
      go_wp2
      go_ret
      exact ⟨ret_str (bytes_ext (by rw [data_app, data_mk, itoa_nat, ← HD.out, decDigits_small hz]; rfl)), hB.alloc hsz _⟩
    · have hj0 : (9 : Int) < (j : Int) := by omega
      have hcv := digit_back wr j
      go_wp2
      go_roundw
      case rel => exact ⟨j / 10, ⟨#[digC (j % 10)]⟩ ++ t, by go_num, rfl, by omega, by rw [size_app]; show 1 + t.size + _ ≤ _; omega, by rw [← HD.out, decDigits_big hz, data_app]; simp [digC], hB.alloc hsz _⟩
      case measure => simp [intOf]; omega
theorem itoa_size {n : Int} (h : inR n = true) : (⟨(itoa n).toArray⟩ : ByteArray).size ≤ 11 := by
  rw [size_data, data_mk]
  exact itoa_len h
set_option maxHeartbeats 1000000 in
theorem fmtS (n : Int) (w : World) :
    Calls Tryd.prog 99 #[.int .i64 n] w fun e w' => e = .returned (.string ⟨(fmtZ n).toArray⟩) ∧ Below w.heap.size w w' := by
  cases hr : inR n with
  | false =>
    have hin : inB n (-1000000000) 1000000000 = false := hr
    rw [fmtZ_out hr]
    have HI := Lib.hid hin
    clear hin hr
    go_enter Tryd.func99, Tryd.ntmps99
    go_wp2_with (go_at_call 100; refine (l01In_any _ _ _ _).mono ?_; rw [HI.out]; rintro e w' ⟨rfl, rfl⟩)
    go_ret
    exact ⟨rfl, Below.refl _ _⟩
  | true =>
    have hb := inR_iff.1 hr
    rw [fmtZ_in hr]
    by_cases h0 : n < 0
    · obtain ⟨k, hk⟩ : ∃ k : Nat, -n = (k : Int) := ⟨(-n).toNat, by omega⟩
      have hin : inB n (-1000000000) 1000000000 = true := hr
      have HI := Lib.hid hin
      have HS := Lib.hid (fmtS_nat k (by omega) w)
      have hsz := itoa_size (n := (k : Int)) (by unfold inR; simp; omega)
      have HK := Lib.hid hk
      have hn : n = -(k : Int) := by omega
      have HE : Hid ((⟨#[45]⟩ : ByteArray) ++ ⟨(itoa (k : Int)).toArray⟩ = ⟨(itoa n).toArray⟩) := Lib.hid (bytes_ext (by rw [data_app, data_mk, data_mk, itoa_neg h0, hk]; rfl))
      have hk9 : (k : Int) ≤ 1000000000 := by omega
      subst hn
      clear hin hr hk hb
      generalize (⟨(itoa (k : Int)).toArray⟩ : ByteArray) = t at HS hsz HE
      go_enter Tryd.func99, Tryd.ntmps99
      go_wp2_with (first
        | (go_at_call 100; refine (l01In_any _ _ _ _).mono ?_; rw [HI.out]; rintro e w' ⟨rfl, rfl⟩)
        | (go_at_call 99; refine HS.out.mono ?_; rintro e w' ⟨rfl, hbb⟩))
      go_ret
      exact ⟨ret_str HE.out, hbb⟩
    · obtain ⟨k, rfl⟩ : ∃ k : Nat, n = (k : Int) := ⟨n.toNat, by omega⟩
      exact fmtS_nat k (by omega) w
end Go.Proofs.YtnibknaemgpjdaaDoor
