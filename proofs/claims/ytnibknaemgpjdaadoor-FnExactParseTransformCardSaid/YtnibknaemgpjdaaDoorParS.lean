/- ParseInt of the reference. -/
import Derived.Test.YtnibknaemgpjdaaDoorParT
namespace Go.Proofs.YtnibknaemgpjdaaDoor
open Go Go.RowKit Go.Sort
open Go.Lib (decDigits itoa)

/-- The first k bytes without the first g: all digits. -/
def Digs (s : ByteArray) (g k : Nat) : Prop := ∀ c ∈ (s.data.toList.take k).drop g, isDig c
theorem valN_lt : ∀ (l : List UInt8) (a : Nat), (∀ c ∈ l, isDig c) → valN l a < (a + 1) * 10 ^ l.length
  | [], a, _ => by simp [valN]
  | c :: l, a, h => by
    have hc := h c (by simp)
    unfold isDig at hc
    have := valN_lt l (a * 10 + (c.toNat - 48)) (fun b hb => h b (by simp [hb]))
    rw [valN, List.length_cons, Nat.pow_succ]
    refine Nat.lt_of_lt_of_le this ?_
    have h2 : a * 10 + (c.toNat - 48) + 1 ≤ (a + 1) * 10 := by omega
    have h3 := Nat.mul_le_mul_right (10 ^ l.length) h2
    rw [Nat.mul_assoc, Nat.mul_comm 10] at h3
    exact h3
theorem take_drop_snoc {s : ByteArray} {g k : Nat} (hk : k < s.size) (hg : g ≤ k) : (s.data.toList.take (k + 1)).drop g = (s.data.toList.take k).drop g ++ [s[k]'hk] := by
  rw [List.take_add_one, get_list hk, List.drop_append_of_le_length (by rw [List.length_take, ← size_data]; omega)]
  rfl
/-- The number spelled by the first k bytes without the first g. -/
def upto (s : ByteArray) (g k : Nat) : Nat := valN ((s.data.toList.take k).drop g) 0
theorem upto_zero (s : ByteArray) {g k : Nat} (h : k ≤ g) : upto s g k = 0 := by
  unfold upto
  rw [List.drop_eq_nil_of_le (by rw [List.length_take]; omega)]
  rfl
theorem upto_succ {s : ByteArray} {g k : Nat} (hk : k < s.size) (hg : g ≤ k) : upto s g (k + 1) = upto s g k * 10 + ((s[k]'hk).toNat - 48) := by
  unfold upto
  rw [take_drop_snoc hk hg, valN_snoc]
theorem digs_le {s : ByteArray} {g k : Nat} (h : k ≤ g) : Digs s g k := by
  unfold Digs
  rw [List.drop_eq_nil_of_le (by rw [List.length_take]; omega)]
  intro c hc
  cases hc
theorem digs_succ {s : ByteArray} {g k : Nat} (h : Digs s g k) (hk : k < s.size) (hg : g ≤ k) (hd : isDig (s[k]'hk)) : Digs s g (k + 1) := by
  unfold Digs at h ⊢
  rw [take_drop_snoc hk hg]
  intro c hc
  rcases List.mem_append.1 hc with hc | hc
  · exact h c hc
  · simp only [List.mem_singleton] at hc
    subst hc
    exact hd
theorem upto_bd {s : ByteArray} {g k : Nat} (h : Digs s g k) (hk : k ≤ 12) : upto s g k < 1000000000000 := by
  have h1 := valN_lt _ 0 h
  have h2 : ((s.data.toList.take k).drop g).length ≤ 12 := by rw [List.length_drop, List.length_take]; omega
  have h3 : 10 ^ ((s.data.toList.take k).drop g).length ≤ 10 ^ 12 := Nat.pow_le_pow_right (by decide) h2
  unfold upto
  omega
theorem valS_plain {s : ByteArray} (h0 : 0 < s.size) (h : (s[0]'h0) ≠ 45) : valS s.data.toList = (upto s 0 s.size : Nat) := by
  unfold upto
  have e : s.data.toList.take s.size = s.data.toList := List.take_of_length_le (by rw [size_data]; exact Nat.le_refl _)
  rw [e, List.drop_zero]
  have h1 := get_list h0
  cases hl : s.data.toList with
  | nil => rw [hl] at h1; cases h1
  | cons c l =>
    rw [hl] at h1
    have : c = s[0]'h0 := by simpa using h1
    rw [valS, if_neg (by rw [this]; exact h)]
theorem valS_minus {s : ByteArray} (h0 : 0 < s.size) (h : (s[0]'h0) = 45) : valS s.data.toList = -(upto s 1 s.size : Nat) := by
  unfold upto
  have e : s.data.toList.take s.size = s.data.toList := List.take_of_length_le (by rw [size_data]; exact Nat.le_refl _)
  rw [e]
  have h1 := get_list h0
  cases hl : s.data.toList with
  | nil => rw [hl] at h1; cases h1
  | cons c l =>
    rw [hl] at h1
    have : c = s[0]'h0 := by simpa using h1
    rw [valS, if_pos (by rw [this]; exact h), List.drop_succ_cons, List.drop_zero]

/-- What stands behind the loop: the number is written again and compared. -/
theorem end_fmt {s : ByteArray} {v : Int} (h0 : 0 < s.size) (hv : valS s.data.toList = v) (w : World) :
    Calls Tryd.prog 99 #[.int .i64 v] w fun e w' => (∃ t : ByteArray, e = .returned (.string t) ∧ ((t = s ∧ numV s.data.toList = .tuple #[.int .i64 v, .bool true]) ∨ ((t.toList == s.toList) = false ∧ numV s.data.toList = .tuple #[.int .i64 0, .bool false]))) ∧ Below w.heap.size w w' := by
  refine (fmtS v w).mono ?_
  rintro e w' ⟨rfl, hb⟩
  refine ⟨⟨_, rfl, ?_⟩, hb⟩
  have hne : s.data.toList ≠ [] := by
    intro e
    rw [size_data, e] at h0
    cases h0
  by_cases hf : fmtZ v = s.data.toList
  · exact .inl ⟨bytes_eq hf, numV_some (by rw [← hv] at hf ⊢; exact numOf_of hne hf)⟩
  · exact .inr ⟨bytes_neq hf, numV_none (by rw [← hv] at hf; exact numOf_not hf)⟩
theorem not_empty {s : ByteArray} (h : 0 < s.size) : s.toList.isEmpty = false := by
  rw [Lib.toList_data]
  cases hl : s.data.toList with
  | nil => rw [size_data, hl] at h; cases h
  | cons c l => rfl
set_option maxHeartbeats 2000000 in
theorem parS_plain (s : ByteArray) (hs : s.size ≤ 1048576) (h0 : 0 < s.size) (h45 : (s[0]'h0) ≠ 45) (w : World) : Calls Tryd.prog 81 #[.string s] w (NumRes s w) := by
  have hE : (((s[0]'h0).toNat : Int) == 45) = false := by
    simp only [beq_eq_false_iff_ne, ne_eq]
    intro e
    exact h45 (UInt8.toNat_inj.1 (by rw [show (45 : UInt8).toNat = 45 from rfl]; omega))
  have h0' : (0 : Int) < (s.size : Int) := by omega
  have HV := Lib.hid (valS_plain h0 h45)
  have HE := Lib.hid (not_empty h0)
  have H45 := Lib.hid h45
  clear h45
  go_enter Tryd.func81, Tryd.ntmps81
  go_wp2
  clear hE
  clear h0'
  go_loop [4, 6] (fun m i => ∃ k : Nat, k ≤ s.size ∧ i = .int .i64 k ∧ m = .int .i64 (upto s 0 k : Nat) ∧ Digs s 0 k) (fun _ i => s.size - (intOf i).toNat)
  case atStart => exact ⟨0, Nat.zero_le _, rfl, by rw [upto_zero s (Nat.zero_le _)]; rfl, digs_le (Nat.zero_le _)⟩
  case round =>
    obtain ⟨k, hk, rfl, rfl, hd⟩ := hrel
    have HD := Lib.hid hd
    clear hd
    have hk0 : (0 : Int) ≤ (k : Int) := by omega
    by_cases hlt : k < s.size
    · obtain ⟨c, hc⟩ : ∃ c : UInt8, s[k]'hlt = c := ⟨_, rfl⟩
      have hg := get_list hlt
      rw [hc] at hg
      have hb0 : (0 : Int) ≤ ((s[k]'hlt).toNat : Int) := by omega
      have hb1 : ((s[k]'hlt).toNat : Int) ≤ 255 := by have := (s[k]'hlt).toNat_lt; omega
      have hnm : ¬ (k = 0 ∧ c = 45) := by
        rintro ⟨rfl, rfl⟩
        exact H45.out hc
      have HK : Hid (0 ≤ k) := Lib.hid (by omega)
      obtain ⟨z, hz⟩ : ∃ z, ((k : Int) == 0) = z := ⟨_, rfl⟩
      by_cases hd1 : c.toNat < 48
      · have HN := Lib.hid (numV_none (numOf_bad hg hnm (by unfold isDig; omega)))
        have hx : ((s[k]'hlt).toNat : Int) - 48 < 0 := by rw [hc]; omega
        clear hg hnm hc
        cases z
        all_goals
          go_wp2
          go_ret2
          exact numRes_mk HN.out (Below.refl _ _)
      by_cases hd2 : 57 < c.toNat
      · have HN := Lib.hid (numV_none (numOf_bad hg hnm (by unfold isDig; omega)))
        have hx : 9 < ((s[k]'hlt).toNat : Int) - 48 := by rw [hc]; omega
        have hx1 : ¬ ((s[k]'hlt).toNat : Int) - 48 < 0 := by rw [hc]; omega
        clear hg hnm hc
        cases z
        all_goals
          go_wp2
          go_ret2
          exact numRes_mk HN.out (Below.refl _ _)
      have hx1 : ¬ ((s[k]'hlt).toNat : Int) - 48 < 0 := by rw [hc]; omega
      have hx2 : ¬ 9 < ((s[k]'hlt).toNat : Int) - 48 := by rw [hc]; omega
      by_cases hl : 12 < s.size
      · have HN := Lib.hid (numV_none (numOf_long (l := s.data.toList) (by rw [← size_data]; exact hl)))
        clear hg hnm hc hd1 hd2
        cases z
        all_goals
          go_wp2
          go_ret2
          exact numRes_mk HN.out (Below.refl _ _)
      · have hbd := upto_bd HD.out (by omega)
        have HS := Lib.hid (upto_succ hlt HK.out)
        have HG := Lib.hid (digs_succ HD.out hlt HK.out (by rw [hc]; unfold isDig; omega))
        have hu : ¬ (12 : Int) < (s.size : Int) := by omega
        have hc1 : 48 ≤ (s[k]'hlt).toNat := by rw [hc]; omega
        have hc2 : (s[k]'hlt).toNat ≤ 57 := by rw [hc]; omega
        clear hg hnm hd1 hd2 hc
        generalize upto s 0 k = m at hbd HS
        cases z
        all_goals
          go_wp2
          go_round
          case rel => exact ⟨k + 1, by omega, by go_num, by rw [HS.out]; go_num, HG.out⟩
          case measure => simp [intOf]; omega
    · obtain rfl : k = s.size := by omega
      have HF := Lib.hid (end_fmt h0 HV.out w)
      have hE := HE.out
      generalize ((upto s 0 s.size : Nat) : Int) = v at HF
      go_wp2_with fail
      refine HF.out.mono ?_
      rintro e w1 ⟨⟨t, rfl, h⟩, hb⟩
      rcases h with ⟨rfl, hv⟩ | ⟨hne, hv⟩
      · have HN := Lib.hid hv
        clear hv
        go_wp2
        go_ret2
        exact numRes_mk HN.out hb
      · have HN := Lib.hid hv
        clear hv
        go_wp2
        go_ret2
        exact numRes_mk HN.out hb

set_option maxHeartbeats 2000000 in
theorem parS_minus (s : ByteArray) (hs : s.size ≤ 1048576) (h0 : 0 < s.size) (h45 : (s[0]'h0) = 45) (w : World) : Calls Tryd.prog 81 #[.string s] w (NumRes s w) := by
  have hE : (((s[0]'h0).toNat : Int) == 45) = true := by
    rw [h45]; rfl
  have h0' : (0 : Int) < (s.size : Int) := by omega
  have HV := Lib.hid (valS_minus h0 h45)
  have HE := Lib.hid (not_empty h0)
  have H45 := Lib.hid h45
  clear h45
  go_enter Tryd.func81, Tryd.ntmps81
  go_wp2
  clear hE
  clear h0'
  go_loop [4, 6] (fun m i => ∃ k : Nat, k ≤ s.size ∧ i = .int .i64 k ∧ m = .int .i64 (upto s 1 k : Nat) ∧ Digs s 1 k ∧ Hid (1 < k → s.size ≤ 12)) (fun _ i => s.size - (intOf i).toNat)
  case atStart => exact ⟨0, Nat.zero_le _, rfl, by rw [upto_zero s (Nat.zero_le _)]; rfl, digs_le (Nat.zero_le _), Lib.hid (fun h => by omega)⟩
  case round =>
    obtain ⟨k, hk, rfl, rfl, hd, HL⟩ := hrel
    have HD := Lib.hid hd
    clear hd
    have hk0 : (0 : Int) ≤ (k : Int) := by omega
    by_cases hlt : k < s.size
    · obtain ⟨c, hc⟩ : ∃ c : UInt8, s[k]'hlt = c := ⟨_, rfl⟩
      have hg := get_list hlt
      rw [hc] at hg
      have hb0 : (0 : Int) ≤ ((s[k]'hlt).toNat : Int) := by omega
      have hb1 : ((s[k]'hlt).toNat : Int) ≤ 255 := by have := (s[k]'hlt).toNat_lt; omega
      by_cases hz0 : k = 0
      · have hz : ((k : Int) == 0) = true := by simp [hz0]
        have HZ := Lib.hid hz0
        clear hz0 hg hc
        go_wp2
        go_round
        case rel => exact ⟨k + 1, by have := HZ.out; omega, by go_num, by rw [upto_zero s (show k ≤ 1 by have := HZ.out; omega), upto_zero s (show k + 1 ≤ 1 by have := HZ.out; omega)], digs_le (by have := HZ.out; omega), Lib.hid (fun h => by have := HZ.out; omega)⟩
        case measure => have := HZ.out; simp [intOf]; omega
      have hz : ((k : Int) == 0) = false := by
        simp only [beq_eq_false_iff_ne, ne_eq]; omega
      have hnm : ¬ (k = 0 ∧ c = 45) := fun h => hz0 h.1
      have HK : Hid (1 ≤ k) := Lib.hid (by omega)
      clear hz0
      by_cases hd1 : c.toNat < 48
      · have HN := Lib.hid (numV_none (numOf_bad hg hnm (by unfold isDig; omega)))
        have hx : ((s[k]'hlt).toNat : Int) - 48 < 0 := by rw [hc]; omega
        clear hg hnm hc
        go_wp2
        all_goals
          go_ret2
          exact numRes_mk HN.out (Below.refl _ _)
      by_cases hd2 : 57 < c.toNat
      · have HN := Lib.hid (numV_none (numOf_bad hg hnm (by unfold isDig; omega)))
        have hx : 9 < ((s[k]'hlt).toNat : Int) - 48 := by rw [hc]; omega
        have hx1 : ¬ ((s[k]'hlt).toNat : Int) - 48 < 0 := by rw [hc]; omega
        clear hg hnm hc
        go_wp2
        all_goals
          go_ret2
          exact numRes_mk HN.out (Below.refl _ _)
      have hx1 : ¬ ((s[k]'hlt).toNat : Int) - 48 < 0 := by rw [hc]; omega
      have hx2 : ¬ 9 < ((s[k]'hlt).toNat : Int) - 48 := by rw [hc]; omega
      by_cases hl : 12 < s.size
      · have HN := Lib.hid (numV_none (numOf_long (l := s.data.toList) (by rw [← size_data]; exact hl)))
        clear hg hnm hc hd1 hd2
        go_wp2
        all_goals
          go_ret2
          exact numRes_mk HN.out (Below.refl _ _)
      · have hbd := upto_bd HD.out (by omega)
        have HS := Lib.hid (upto_succ hlt HK.out)
        have HG := Lib.hid (digs_succ HD.out hlt HK.out (by rw [hc]; unfold isDig; omega))
        have hu : ¬ (12 : Int) < (s.size : Int) := by omega
        have hc1 : 48 ≤ (s[k]'hlt).toNat := by rw [hc]; omega
        have hc2 : (s[k]'hlt).toNat ≤ 57 := by rw [hc]; omega
        clear hg hnm hd1 hd2 hc
        generalize upto s 1 k = m at hbd HS
        go_wp2
        all_goals
          go_round
          case rel => exact ⟨k + 1, by omega, by go_num, by rw [HS.out]; go_num, HG.out, Lib.hid (fun _ => by omega)⟩
          case measure => simp [intOf]; omega
    · obtain rfl : k = s.size := by omega
      have HF := Lib.hid (end_fmt h0 HV.out w)
      have hE := HE.out
      have hbd : upto s 1 s.size < 1000000000000 := by
        rcases Nat.lt_or_ge 1 s.size with h | h
        · exact upto_bd HD.out (HL.out h)
        · rw [upto_zero s h]; decide
      generalize upto s 1 s.size = m at HF hbd
      go_wp2_with fail
      refine HF.out.mono ?_
      rintro e w1 ⟨⟨t, rfl, h⟩, hb⟩
      rcases h with ⟨rfl, hv⟩ | ⟨hne, hv⟩
      · have HN := Lib.hid hv
        clear hv
        go_wp2
        go_ret2
        exact numRes_mk HN.out hb
      · have HN := Lib.hid hv
        clear hv
        go_wp2
        go_ret2
        exact numRes_mk HN.out hb

set_option maxHeartbeats 1000000 in
theorem parS_none (s : ByteArray) (h0 : s.size = 0) (w : World) : Calls Tryd.prog 81 #[.string s] w (NumRes s w) := by
  obtain rfl : s = ⟨#[]⟩ := bytes_ext (by
    have : s.data.toList = [] := List.eq_nil_of_length_eq_zero (by rw [← size_data]; exact h0)
    rw [this])
  have HN := Lib.hid (numV_none (l := (⟨#[]⟩ : ByteArray).data.toList) numOf_nil)
  clear h0
  go_enter Tryd.func81, Tryd.ntmps81
  go_wp2
  refine wp_loop_rounds 1 ?_
  rw [rounds_succ]
  go_wp2
  go_ret2
  exact numRes_mk HN.out (Below.refl _ _)
theorem parS (s : ByteArray) (hs : s.size ≤ 1048576) (w : World) : Calls Tryd.prog 81 #[.string s] w (NumRes s w) := by
  rcases Nat.eq_zero_or_pos s.size with h | h
  · exact parS_none s h w
  · by_cases h45 : (s[0]'h) = 45
    · exact parS_minus s hs h h45 w
    · exact parS_plain s hs h h45 w
end Go.Proofs.YtnibknaemgpjdaaDoor
