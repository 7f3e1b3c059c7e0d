/- FormatInts, of the program and of the reference: the numbers' texts with commas between. -/
import Derived.Test.YtnibknaemgpjdaaDoorFmtT
import Derived.Test.YtnibknaemgpjdaaDoorJoinT
import Derived.Test.YtnibknaemgpjdaaDoorInts
namespace Go.Proofs.YtnibknaemgpjdaaDoor
open Go Go.RowKit Go.Sort
open Go.Lib (decDigits itoa)

/-- The texts of numbers. -/
def strZ (n : Int) : ByteArray := ⟨(itoa n).toArray⟩
theorem strZ_size {n : Int} (h : inR n = true) : (strZ n).size ≤ 11 := itoa_size h
theorem strZ_ne (n : Int) : (strZ n).toList.isEmpty = false := by
  unfold strZ
  rw [Lib.toList_data, data_mk]
  cases h : itoa n with
  | nil => exact absurd h (itoa_ne n)
  | cons c l => rfl
theorem tot_strZ : ∀ {xs : List Int}, (∀ n ∈ xs, inR n = true) → tot (xs.map strZ) ≤ 11 * xs.length
  | [], _ => by simp [tot]
  | x :: xs, h => by
    have h1 := tot_strZ (xs := xs) (fun n hn => h n (by simp [hn]))
    have h2 := strZ_size (h x (by simp))
    rw [List.map_cons, tot, List.length_cons]; omega
theorem data_strZ (xs : List Int) : (xs.map strZ).map (·.data.toList) = xs.map itoa := by
  rw [List.map_map]
  exact List.map_congr_left fun n _ => by simp [strZ]
/-- Among the first k all have a text. -/
def AllIn (xs : List Int) (k : Nat) : Prop := ∀ n ∈ xs.take k, inR n = true
theorem allIn_zero (xs : List Int) : AllIn xs 0 := fun n hn => by simp at hn
theorem take_int {xs : List Int} {k : Nat} (hk : k < xs.length) : xs.take (k + 1) = xs.take k ++ [xs[k]?.getD 0] := by
  rw [List.take_add_one, List.getElem?_eq_getElem hk]; rfl
theorem allIn_succ {xs : List Int} {k : Nat} (h : AllIn xs k) (hk : k < xs.length) (hx : inR (xs[k]?.getD 0) = true) : AllIn xs (k + 1) := by
  intro n hn
  rw [take_int hk] at hn
  rcases List.mem_append.1 hn with hn | hn
  · exact h n hn
  · simp only [List.mem_singleton] at hn
    subst hn
    exact hx
theorem allIn_all {xs : List Int} (h : AllIn xs xs.length) : ∀ n ∈ xs, inR n = true := fun n hn => h n (by rw [List.take_length]; exact hn)
theorem fmtInts_bad {xs : List Int} {k : Nat} (hk : k < xs.length) (hx : inR (xs[k]?.getD 0) = false) : fmtInts xs = [] := by
  have hne : xs ≠ [] := by rintro rfl; simp at hk
  unfold fmtInts
  rw [if_neg hne, if_neg]
  intro h
  have := List.all_eq_true.1 h (xs[k]'hk) (List.getElem_mem hk)
  rw [List.getElem?_eq_getElem hk] at hx
  simp only [Option.getD_some] at hx
  rw [hx] at this
  cases this
theorem fmtInts_nil : fmtInts [] = [45] := rfl
def IntsRes (xs : List Int) (w : World) (e : Ending) (w' : World) : Prop := e = .returned (.string ⟨(fmtInts xs).toArray⟩) ∧ Below w.heap.size w w'
theorem intsRes_mk {xs : List Int} {w w' : World} {t : ByteArray} (h : fmtInts xs = t.data.toList) (hb : Below w.heap.size w w') : IntsRes xs w (.returned (.string t)) w' :=
  ⟨ret_str (bytes_ext (by rw [data_mk, h])), hb⟩
theorem infoStrF : (Tryd.prog.info? 9).map (fun i => (i.zero, i.size, i.bytes)) = some (some (.string ByteArray.empty), 1, 16) := by kernel_rfl
theorem own_strs {w : World} {B : Nat} {v : Value} {n : Nat} {ss : List ByteArray} (h : w.ownsRow B 9 1 v n (ss.map Value.string)) : StrsAt w v ss ∧ ∀ a n c, v = .slice a n c → n ≤ c := by
  have ho := ownStrs_of_row h
  refine ⟨ho.strsAt, fun a n c e => ?_⟩
  obtain ⟨a', cap, hv, hcap, _⟩ := ho
  rw [e] at hv
  injection hv with _ h2 h3
  omega
set_option maxHeartbeats 1000000 in
theorem fmtIntsI (v : Value) (xs : List Int) (w : World) (h1 : IntsAt w v xs) (hn : xs.length ≤ 1048576) (hT : Tab w) : Calls Tryd.prog 19 #[v] w (IntsRes xs w) := by
  obtain ⟨a, cap, rfl, hc⟩ := h1
  by_cases h0 : xs = []
  · subst h0
    clear hc hT
    go_enter Tryd.func19, Tryd.ntmps19
    go_wp2
    go_ret
    exact intsRes_mk fmtInts_nil (Below.refl _ _)
  have hl : 0 < xs.length := List.length_pos_iff.2 h0
  have H0 := Lib.hid h0
  have hl1 : ((xs.length : Int) == 0) = false := by
    simp only [beq_eq_false_iff_ne, ne_eq]; omega
  obtain ⟨i0, hi, hz0, hz1, hz2⟩ := info_parts infoStrF
  have hown0 : (w.alloc (.cells #[] 9)).ownsRow w.heap.size 9 1 (.slice (some ⟨w.heap.size, 0, none⟩) 0 0) 0 [] := World.ownsRow_made w #[] 0 (Nat.le_refl _) (by decide) rfl
  have hB0 := below1 w (.cells #[] 9)
  have HO := Lib.hid hown0
  have HC := Lib.hid hc
  have HT := Lib.hid hT
  clear hown0 hc hT h0
  go_enter Tryd.func19, Tryd.ntmps19
  go_wp2
  go_loopw [3, 13] (fun p j wr => ∃ k : Nat, k ≤ xs.length ∧ j = .int .i64 k ∧ wr.ownsRow w.heap.size 9 1 p k (((xs.take k).map strZ).map Value.string) ∧ AllIn xs k ∧ Below w.heap.size w wr) (fun _ j _ => xs.length - (intOf j).toNat)
  case atStart => exact ⟨0, Nat.zero_le _, rfl, HO.out, allIn_zero xs, hB0⟩
  case round =>
    obtain ⟨k, hk, rfl, hown, hall, hB⟩ := hrel
    have HA := Lib.hid hall
    have HW := Lib.hid hown
    clear HO hB0 hall hown
    by_cases hlt : k < xs.length
    · obtain ⟨b, off, rfl, hbl, hcell⟩ := HC.out (by omega)
      have d1 := (hB.cell (p := ⟨b, off + k, none⟩) hbl).trans (hcell k hlt)
      have HF := Lib.hid (fmtI (xs[k]?.getD 0) wr (HT.out.keep hB))
      have HS := Lib.hid (take_int hlt)
      have hk0 : (0 : Int) ≤ (k : Int) := by omega
      have hk1 : (k : Int) < (xs.length : Int) := by omega
      obtain ⟨x, hx⟩ : ∃ x, xs[k]?.getD 0 = x := ⟨_, rfl⟩
      rw [hx] at d1 HF HS
      clear hcell
      cases hr : inR x with
      | false =>
        have HN := Lib.hid (fmtInts_bad hlt (by rw [hx]; exact hr))
        rw [fmtZ_out hr] at HF
        clear hx hr
        go_wp2_with fail
        refine HF.out.mono ?_
        rintro e w1 ⟨rfl, hb⟩
        go_wp2
        go_ret
        exact intsRes_mk HN.out (b_keep hb hB)
      | true =>
        have HN := Lib.hid (allIn_succ HA.out hlt (by rw [hx]; exact hr))
        rw [fmtZ_in hr] at HF
        have hne := strZ_ne x
        have he : (⟨(itoa x).toArray⟩ : ByteArray) = strZ x := rfl
        rw [he] at HF
        clear hx hr he
        go_wp2_with fail
        refine HF.out.mono ?_
        rintro e w1 ⟨rfl, hb⟩
        have hown1 := own_keep HW.out hb
        replace hB := b_keep hb hB
        have hsz := hB.size
        clear hb
        go_wp2_with (at_builtin; refine wpList_append_own _ rfl _ _ 50 rfl w.heap.size 9 i0 (.string ByteArray.empty) 1 16 Tryd.underlying50 hi hz0 hz1 hz2 rfl (by decide) _ _ _ rfl (hown1.alloc _) ⟨w1.heap.size, 0, none⟩ 1 1 [.string (strZ x)] rfl rfl ?c1 ?c2 ?c3 ?c4 ?c5 ?_)
        case c1 => exact news_one
        case c2 => intro u hu; simp at hu; subst hu; rfl
        case c3 => unfold maxLen; omega
        case c4 => omega
        case c5 => simp; omega
        intro v' w2 hown' hgrow _
        have hB1 := below_own (hB.alloc hsz _) (hown1.alloc _) hgrow (by simp; omega)
        clear hgrow hown1 hB
        go_wp2
        go_roundw
        case rel => exact ⟨k + 1, by omega, by go_num, by rw [HS.out]; simpa using hown', HN.out, hB1⟩
        case measure => simp [intOf]; omega
    · obtain rfl : k = xs.length := by omega
      have hin := allIn_all HA.out
      have HN := Lib.hid (fmtInts_in H0.out hin)
      have hw2 := HW.out
      rw [List.take_length] at hw2
      obtain ⟨hs, hcap⟩ := own_strs hw2
      have HJ := Lib.hid (joinI _ _ ⟨#[44]⟩ wr hs hcap (by rw [List.length_map]; omega) (by have := tot_strZ hin; omega) (by decide))
      clear hs hcap hw2 hin
      go_wp2_with fail
      refine HJ.out.mono ?_
      rintro e w1 ⟨rfl, hb⟩
      go_wp2
      go_ret
      exact intsRes_mk (by rw [HN.out, data_mk, ← List.map_map, data_strZ]) (b_keep hb hB)
set_option maxHeartbeats 1000000 in
theorem fmtIntsS (v : Value) (xs : List Int) (w : World) (h1 : IntsAt w v xs) (hn : xs.length ≤ 1048576) : Calls Tryd.prog 83 #[v] w (IntsRes xs w) := by
  obtain ⟨a, cap, rfl, hc⟩ := h1
  obtain ⟨i0, hi, hz0, hz1, hz2⟩ := info_parts infoStrF
  have hown0 : (w.alloc (.cells #[] 9)).ownsRow w.heap.size 9 1 (.slice (some ⟨w.heap.size, 0, none⟩) 0 0) 0 [] := World.ownsRow_made w #[] 0 (Nat.le_refl _) (by decide) rfl
  have hB0 := below1 w (.cells #[] 9)
  have HO := Lib.hid hown0
  have HC := Lib.hid hc
  clear hown0 hc
  go_enter Tryd.func83, Tryd.ntmps83
  go_wp2
  go_loopw [3, 9] (fun p j wr => ∃ k : Nat, k ≤ xs.length ∧ j = .int .i64 k ∧ wr.ownsRow w.heap.size 9 1 p k (((xs.take k).map strZ).map Value.string) ∧ AllIn xs k ∧ Below w.heap.size w wr) (fun _ j _ => xs.length - (intOf j).toNat)
  case atStart => exact ⟨0, Nat.zero_le _, rfl, HO.out, allIn_zero xs, hB0⟩
  case round =>
    obtain ⟨k, hk, rfl, hown, hall, hB⟩ := hrel
    have HA := Lib.hid hall
    have HW := Lib.hid hown
    clear HO hB0 hall hown
    by_cases hlt : k < xs.length
    · obtain ⟨b, off, rfl, hbl, hcell⟩ := HC.out (by omega)
      have d1 := (hB.cell (p := ⟨b, off + k, none⟩) hbl).trans (hcell k hlt)
      have HF : ∀ w', Hid (Calls Tryd.prog 99 #[.int .i64 (xs[k]?.getD 0)] w' fun e w'' => e = .returned (.string ⟨(fmtZ (xs[k]?.getD 0)).toArray⟩) ∧ Below w'.heap.size w' w'') := fun w' => fmtS (xs[k]?.getD 0) w'
      have HS := Lib.hid (take_int hlt)
      have hk0 : (0 : Int) ≤ (k : Int) := by omega
      have hk1 : (k : Int) < (xs.length : Int) := by omega
      obtain ⟨x, hx⟩ : ∃ x, xs[k]?.getD 0 = x := ⟨_, rfl⟩
      rw [hx] at d1 HF HS
      clear hcell
      cases hr : inR x with
      | false =>
        have HN := Lib.hid (fmtInts_bad hlt (by rw [hx]; exact hr))
        rw [fmtZ_out hr] at HF
        clear hx hr
        go_wp2_with fail
        refine (HF _).out.mono ?_
        rintro e w1 ⟨rfl, hb⟩
        go_wp2
        go_ret
        exact intsRes_mk HN.out (b_keep hb hB)
      | true =>
        have HN := Lib.hid (allIn_succ HA.out hlt (by rw [hx]; exact hr))
        rw [fmtZ_in hr] at HF
        have hne := strZ_ne x
        have he : (⟨(itoa x).toArray⟩ : ByteArray) = strZ x := rfl
        rw [he] at HF
        clear hx hr he
        go_wp2_with fail
        refine (HF _).out.mono ?_
        rintro e w1 ⟨rfl, hb⟩
        have hown1 := own_keep HW.out hb
        replace hB := b_keep hb hB
        clear hb
        go_wp2_with fail
        refine (HF _).out.mono ?_
        rintro e w2 ⟨rfl, hb⟩
        replace hown1 := own_keep hown1 hb
        replace hB := b_keep hb hB
        have hsz := hB.size
        clear hb
        go_wp2_with (at_builtin; refine wpList_append_own _ rfl _ _ 50 rfl w.heap.size 9 i0 (.string ByteArray.empty) 1 16 Tryd.underlying50 hi hz0 hz1 hz2 rfl (by decide) _ _ _ rfl (hown1.alloc _) ⟨w2.heap.size, 0, none⟩ 1 1 [.string (strZ x)] rfl rfl ?c1 ?c2 ?c3 ?c4 ?c5 ?_)
        case c1 => exact news_one
        case c2 => intro u hu; simp at hu; subst hu; rfl
        case c3 => unfold maxLen; omega
        case c4 => omega
        case c5 => simp; omega
        intro v' w3 hown' hgrow _
        have hB1 := below_own (hB.alloc hsz _) (hown1.alloc _) hgrow (by simp; omega)
        clear hgrow hown1 hB
        go_wp2
        go_roundw
        case rel => exact ⟨k + 1, by omega, by go_num, by rw [HS.out]; simpa using hown', HN.out, hB1⟩
        case measure => simp [intOf]; omega
    · obtain rfl : k = xs.length := by omega
      have hin := allIn_all HA.out
      have hw2 := HW.out
      rw [List.take_length] at hw2
      obtain ⟨hs, hcap⟩ := own_strs hw2
      have HJ := Lib.hid (joinS _ _ ⟨#[44]⟩ wr hs (by rw [List.length_map]; omega) (by have := tot_strZ hin; omega) (by decide))
      obtain ⟨a', cap', rfl, hc'⟩ := hs
      clear hcap hw2 hc'
      rw [List.length_map] at HJ ⊢
      by_cases h0 : xs = []
      · have HN : Hid (fmtInts xs = [45]) := by subst h0; exact fmtInts_nil
        have hl1 : ((xs.length : Int) == 0) = true := by subst h0; rfl
        clear hin h0
        go_wp2
        go_ret
        exact intsRes_mk HN.out hB
      · have HN := Lib.hid (fmtInts_in h0 hin)
        have hl : 0 < xs.length := List.length_pos_iff.2 h0
        have hl1 : ((xs.length : Int) == 0) = false := by
          simp only [beq_eq_false_iff_ne, ne_eq]; omega
        clear hin h0
        go_wp2_with fail
        refine HJ.out.mono ?_
        rintro e w1 ⟨rfl, rfl⟩
        go_wp2
        go_ret
        exact intsRes_mk (by rw [HN.out, data_mk, ← List.map_map, data_strZ]) hB
end Go.Proofs.YtnibknaemgpjdaaDoor
