/- Join, of the program and of the reference; the laws' copy and measure of slices of strings. -/
import Derived.Test.YthcoogljaagneaaStrs
import Derived.Test.YthcoogljaagneaaByt
import Derived.Test.YthcoogljaagneaaNum
import Derived.Test.YthcoogljaagneaaShelf
import Derived.Laws.MakeOwn
import Derived.Lib.Join
import Derived.WalkSpells
import Derived.WalkLawsBesides
import Derived.Outline
namespace Go.Proofs.Ythcoogljaagneaa
open Go.RowKit

/-- As the reference's loop joins the first k. -/
def jn (sep : ByteArray) (ss : List ByteArray) : Nat → ByteArray
  | 0 => ⟨#[]⟩
  | k + 1 => (if k = 0 then ⟨#[]⟩ else jn sep ss k ++ sep) ++ (ss[k]?.getD ByteArray.empty)
/-- How long all are together. -/
def tot : List ByteArray → Nat
  | [] => 0
  | s :: r => s.size + tot r
theorem tot_snoc (x : ByteArray) : ∀ l : List ByteArray, tot (l ++ [x]) = tot l + x.size
  | [] => by simp [tot]
  | y :: l => by rw [List.cons_append, tot, tot, tot_snoc x l]; omega
theorem tot_take {ss : List ByteArray} {k : Nat} (h : k < ss.length) : tot (ss.take (k + 1)) = tot (ss.take k) + (ss[k]?.getD ByteArray.empty).size := by
  rw [List.take_add_one, List.getElem?_eq_getElem h, Option.toList, tot_snoc]; rfl
theorem tot_le (ss : List ByteArray) (k : Nat) : tot (ss.take k) ≤ tot ss := by
  have h : ∀ a b : List ByteArray, tot (a ++ b) = tot a + tot b := by
    intro a b
    induction a with
    | nil => simp [tot]
    | cons x a ih => rw [List.cons_append, tot, tot, ih]; omega
  have h2 := h (ss.take k) (ss.drop k)
  rw [List.take_append_drop] at h2
  omega
theorem jn_size (sep : ByteArray) (ss : List ByteArray) : ∀ k, k ≤ ss.length → (jn sep ss k).size ≤ tot (ss.take k) + k * sep.size
  | 0, _ => Nat.zero_le _
  | k + 1, h => by
    have ih := jn_size sep ss k (by omega)
    rw [jn, tot_take (by omega), size_app]
    by_cases hk : k = 0
    · rw [if_pos hk]
      have e : (⟨#[]⟩ : ByteArray).size = 0 := rfl
      omega
    · rw [if_neg hk, size_app, Nat.succ_mul]; omega
theorem joinL_snoc (l : List UInt8) (x : List UInt8) : ∀ {r : List (List UInt8)}, r ≠ [] → joinL l (r ++ [x]) = joinL l r ++ (l ++ x)
  | [], h => absurd rfl h
  | [y], _ => rfl
  | y :: z :: r, _ => by
    have := joinL_snoc l x (r := z :: r) (by simp)
    simp only [List.cons_append] at this ⊢
    rw [joinL, this, joinL]
    simp
theorem jn_data (sep : ByteArray) (ss : List ByteArray) : ∀ k, k ≤ ss.length → (jn sep ss k).data.toList = joinL sep.data.toList ((ss.take k).map (·.data.toList))
  | 0, _ => rfl
  | k + 1, h => by
    have ih := jn_data sep ss k (by omega)
    have hlt : k < ss.length := by omega
    rw [jn, List.take_add_one, List.getElem?_eq_getElem hlt, data_app]
    simp only [Option.toList, List.map_append, List.map_cons, List.map_nil, Option.getD_some]
    by_cases hk : k = 0
    · subst hk
      rw [if_pos rfl]
      simp [joinL]
    · rw [if_neg hk, joinL_snoc _ _ (fun e => by
        have h5 := congrArg List.length e
        rw [List.length_map, List.length_take, List.length_nil] at h5
        omega), data_app, ih]
      simp
theorem lib_join (sep : List UInt8) : ∀ ws : List (List UInt8), Lib.join ws sep = joinL sep ws
  | [] => rfl
  | [x] => Lib.join_one x sep
  | x :: y :: r => by
    have := lib_join sep (y :: r)
    rw [joinL, ← this]
    simp [Lib.join, List.intercalate, List.intersperse]
theorem joinL_len (sep : ByteArray) (ss : List ByteArray) : (joinL sep.data.toList (ss.map (·.data.toList))).length ≤ tot ss + ss.length * sep.size := by
  have h1 := jn_data sep ss ss.length (Nat.le_refl _)
  have h2 := jn_size sep ss ss.length (Nat.le_refl _)
  rw [List.take_length] at h1 h2
  rw [← h1, ← size_data]
  exact h2

set_option maxHeartbeats 1000000 in
theorem joinS (v : Value) (ss : List ByteArray) (sep : ByteArray) (w : World) (h : StrsAt w v ss) (hn : ss.length ≤ 4194304) (ht : tot ss ≤ 4194304) (hs : sep.size ≤ 4194304) :
    Calls Try.prog 14 #[v, .string sep] w fun e w' => e = .returned (.string ⟨(joinL sep.data.toList (ss.map (·.data.toList))).toArray⟩) ∧ w = w' := by
  obtain ⟨a, cap, rfl, hc⟩ := h
  have HC := Lib.hid hc
  clear hc
  go_enter Try.func14, Try.ntmps14
  go_wp2
  go_loop [5, 10] (fun s i => ∃ k : Nat, k ≤ ss.length ∧ i = .int .i64 k ∧ s = .string (jn sep ss k)) (fun _ i => ss.length - (intOf i).toNat)
  case atStart => exact ⟨0, Nat.zero_le _, rfl, rfl⟩
  case round =>
    obtain ⟨k, hk, rfl, rfl⟩ := hrel
    by_cases hlt : k < ss.length
    · obtain ⟨b, off, rfl, _, hcell⟩ := HC.out (by omega)
      have c1 := hcell k hlt
      have h1 := jn_size sep ss k (by omega)
      have h2 := tot_take hlt
      have h3 := tot_le ss (k + 1)
      have h4 : k * sep.size ≤ 4194304 * 4194304 := Nat.mul_le_mul (by omega) hs
      have hx : (ss[k]?.getD ByteArray.empty).size ≤ 4194304 := by omega
      have hj : (jn sep ss k).size ≤ 4194304 + 4194304 * 4194304 := by omega
      have HS : Hid (jn sep ss (k + 1) = (if k = 0 then ⟨#[]⟩ else jn sep ss k ++ sep) ++ (ss[k]?.getD ByteArray.empty)) := Lib.hid rfl
      have hk0 : (0 : Int) ≤ (k : Int) := by omega
      have hk1 : (k : Int) < (ss.length : Int) := by omega
      clear HC hcell h1 h2 h3 h4
      generalize ss[k]?.getD ByteArray.empty = x at c1 hx HS
      have hsz : (jn sep ss k ++ sep).size ≤ 4194304 + 4194304 * 4194304 + 4194304 := by rw [size_app]; omega
      by_cases hz : k = 0
      · have hz1 : ¬ (0 : Int) < (k : Int) := by omega
        have HZ := Lib.hid hz
        clear hz
        go_wp2
        go_round
        case rel => exact ⟨k + 1, by omega, by go_num, by rw [HS.out, if_pos HZ.out, HZ.out]; rfl⟩
        case measure => simp [intOf]; omega
      · have hz1 : (0 : Int) < (k : Int) := by omega
        go_wp2
        go_round
        case rel => exact ⟨k + 1, by omega, by go_num, by rw [HS.out, if_neg hz]⟩
        case measure => simp [intOf]; omega
    · obtain rfl : k = ss.length := by omega
      go_wp2
      go_ret
      refine ⟨ret_str (bytes_ext ?_), rfl⟩
      rw [jn_data _ _ _ (Nat.le_refl _), List.take_length, data_mk]

theorem joinCall (v : Value) (ss : List ByteArray) (sep : ByteArray) (w : World) (h : StrsAt w v ss) (hcap : ∀ a n c, v = .slice a n c → n ≤ c) (hn : ss.length ≤ 4194304) (ht : tot ss ≤ 4194304) (hs : sep.size ≤ 4194304) :
    Calls Try.prog 21 #[v, .string sep] w fun e w' => e = .returned (.string ⟨(joinL sep.data.toList (ss.map (·.data.toList))).toArray⟩) ∧ Below w.heap.size w w' := by
  obtain ⟨a, cap, rfl, hc⟩ := h
  cases ss with
  | nil =>
    refine (Try.strings_Join_none a cap sep w).mono ?_
    rintro e w' ⟨rfl, rfl⟩
    exact ⟨rfl, Below.refl _ _⟩
  | cons s0 r =>
    obtain ⟨b, off, rfl, hlt, hcell⟩ := hc (by simp)
    have hl := joinL_len sep (s0 :: r)
    have h4 : (s0 :: r).length * sep.size ≤ 4194304 * 4194304 := Nat.mul_le_mul hn hs
    have := Try.strings_Join b off cap (s0 :: r) sep w (fun j x hx => by
      have hj : j < (s0 :: r).length := (List.getElem?_eq_some_iff.1 hx).1
      rw [hcell j hj, hx]; rfl) hlt (by omega) (hcap _ _ _ rfl) (by rw [lib_join]; omega)
    rw [lib_join] at this
    exact this
set_option maxHeartbeats 1000000 in
theorem joinI (v : Value) (ss : List ByteArray) (sep : ByteArray) (w : World) (h : StrsAt w v ss) (hcap : ∀ a n c, v = .slice a n c → n ≤ c) (hn : ss.length ≤ 4194304) (ht : tot ss ≤ 4194304) (hs : sep.size ≤ 4194304) :
    Calls Try.prog 16 #[v, .string sep] w fun e w' => e = .returned (.string ⟨(joinL sep.data.toList (ss.map (·.data.toList))).toArray⟩) ∧ Below w.heap.size w w' := by
  have HJ := Lib.hid (joinCall v ss sep w h hcap hn ht hs)
  obtain ⟨a, cap, rfl, hc⟩ := h
  clear hc hcap
  go_enter Try.func16, Try.ntmps16
  go_wp2_with (first | (go_at_call 21; refine HJ.out.mono ?_; rintro e w' ⟨rfl, hb⟩) | go_in)
  go_ret
  exact ⟨rfl, hb⟩

def zerosS (n : Nat) : Array Value := madeCells #[.string ByteArray.empty] (n * 1)
def mixS (xs : List ByteArray) (k : Nat) : Array Value := ((xs.take k ++ List.replicate (xs.length - k) ByteArray.empty).map Value.string).toArray
theorem mixS_zero (xs : List ByteArray) : zerosS xs.length = mixS xs 0 := by
  apply Array.ext'
  simp [zerosS, mixS, madeCells]
  apply List.ext_getElem
  · simp
  · intro i h1 h2
    simp [Nat.mod_one]
theorem mixS_done (xs : List ByteArray) : mixS xs xs.length = (xs.map Value.string).toArray := by simp [mixS]
theorem mixS_at (xs : List ByteArray) {k : Nat} (hk : k < xs.length) : (mixS xs k)[k]? = some (.string ByteArray.empty) := by
  have h1 : (xs.take k).length = k := by simp; omega
  simp only [mixS, List.getElem?_toArray, List.getElem?_map]
  rw [List.getElem?_append_right (by omega), h1, Nat.sub_self, List.getElem?_replicate]
  rw [if_pos (by omega)]
  rfl
theorem mixS_get (xs : List ByteArray) {k : Nat} (hk : k ≤ xs.length) (i : Nat) : (xs.take k ++ List.replicate (xs.length - k) ByteArray.empty)[i]? = if i < k then xs[i]? else if i < xs.length then some ByteArray.empty else none := by
  have h1 : (xs.take k).length = k := by simp; omega
  by_cases hi : i < k
  · rw [List.getElem?_append_left (by omega), List.getElem?_take, if_pos hi, if_pos hi]
  · rw [List.getElem?_append_right (by omega), h1, List.getElem?_replicate, if_neg hi]
    by_cases h2 : i < xs.length
    · rw [if_pos (by omega), if_pos h2]
    · rw [if_neg (by omega), if_neg h2]
theorem mixS_set (xs : List ByteArray) {k : Nat} (hk : k < xs.length) : (mixS xs k).setIfInBounds k (.string (xs[k]?.getD ByteArray.empty)) = mixS xs (k + 1) := by
  apply Array.ext'
  simp only [mixS, List.setIfInBounds_toArray, List.toList_toArray]
  apply List.ext_getElem?
  intro i
  rw [List.getElem?_set, List.getElem?_map, List.getElem?_map, mixS_get xs (by omega), mixS_get xs (by omega)]
  by_cases hki : k = i
  · subst hki
    rw [if_pos rfl, if_pos (by simp; omega), if_pos (by omega), List.getElem?_eq_getElem hk]
    rfl
  · rw [if_neg hki]
    by_cases hi : i < k
    · rw [if_pos hi, if_pos (by omega)]
    · rw [if_neg hi, if_neg (show ¬ i < k + 1 by omega)]
theorem infoStrJ : (Try.prog.info? 9).map (fun i => (i.zero, i.size, i.bytes)) = some (some (.string ByteArray.empty), 1, 16) := by kernel_rfl
theorem makeStrs (n : Nat) (hn : n ≤ 1048576) (W : World) :
    (Instr.makeSlice 22 (.int .i64 (n : Int)) (.int .i64 (n : Int))).run Try.prog W = .ok (.slice (some ⟨W.heap.size, 0, none⟩) n n) (W.alloc (.cells (zerosS n) 9)) := by
  obtain ⟨i, hi, hz, hs, hb⟩ := info_parts infoStrJ
  have h := run_make (P := Try.prog) W 22 9 i (.string ByteArray.empty) Try.underlying22 hi hz .i64 .i64 n n (by omega) (by omega) (by rw [hb]; omega) (by omega)
  rw [h, hs]
  simp only [Int.toNat_natCast]
  rfl
def CopyS (xs : List ByteArray) (w : World) (e : Ending) (w' : World) : Prop := ∃ a, e = .returned (.slice a xs.length xs.length) ∧ StrsAt w' (.slice a xs.length xs.length) xs ∧ Below w.heap.size w w'
set_option maxHeartbeats 1000000 in
theorem toStringS_any (v : Value) (xs : List ByteArray) (w : World) (h1 : StrsAt w v xs) (hn : xs.length ≤ 1048576) : Calls Try.prog 15 #[v] w (CopyS xs w) := by
  obtain ⟨a, cap, rfl, hc⟩ := h1
  have hmk := makeStrs xs.length hn
  have hB0 := below1 w (.cells (zerosS xs.length) 9)
  have b00 := Blk.new w 9 (zerosS xs.length)
  go_enter Try.func15, Try.ntmps15
  go_wp2
  clear hmk
  generalize w.alloc (.cells (zerosS xs.length) 9) = W0 at hB0 b00 ⊢
  rw [mixS_zero] at b00
  have B00 := Lib.hid b00
  clear b00
  go_loopw [4] (fun j wr => ∃ k : Nat, k ≤ xs.length ∧ j = .int .i64 k ∧ Blk wr w.heap.size 9 (mixS xs k) ∧ Below w.heap.size w wr) (fun j _ => xs.length - (intOf j).toNat)
  case atStart => exact ⟨0, by omega, rfl, B00.out, hB0⟩
  case round =>
    obtain ⟨k, hk, rfl, b0, hB⟩ := hrel
    clear hB0 B00
    by_cases hlt : k < xs.length
    · obtain ⟨b, off, rfl, hb, hcell⟩ := hc (by omega)
      have d1 := hcell k hlt
      have d2 : wr.cell? ⟨b, off + k, none⟩ = some (.string (xs[k]?.getD ByteArray.empty)) := (hB.cell (p := ⟨b, off + k, none⟩) hb).trans d1
      have d3 := b0.cell k
      rw [mixS_at xs hlt] at d3
      have f3 := b0.frozen k
      have B0 := Lib.hid b0
      have HM := Lib.hid (mixS_set xs hlt)
      clear hc hcell d1 b0
      generalize xs[k]?.getD ByteArray.empty = x at d2 HM
      have hk0 : (0 : Int) ≤ (k : Int) := by omega
      have hk1 : (k : Int) < (xs.length : Int) := by omega
      go_wp2
      go_roundw
      case rel => exact ⟨k + 1, by omega, by go_num, by rw [← HM.out]; exact B0.out.set_ k _, hB.setCell (by dsimp only; omega) _⟩
      case measure => simp [intOf]; omega
    · obtain rfl : k = xs.length := by omega
      rw [mixS_done] at b0
      have B0 := Lib.hid b0
      clear b0
      go_wp2
      go_ret
      refine ⟨_, rfl, ⟨_, _, rfl, fun _ => ⟨w.heap.size, 0, rfl, B0.out.lt, fun i hi => ?_⟩⟩, hB⟩
      rw [B0.out.cell]
      simp [hi]
def SzRes (ss : List ByteArray) (w : World) (e : Ending) (w' : World) : Prop := ∃ r : Int, e = .returned (.int .i64 r) ∧ (0 ≤ r → ss.length + tot ss ≤ 1048576) ∧ w = w'
set_option maxHeartbeats 1000000 in
theorem szStringS_any (v : Value) (ss : List ByteArray) (w : World) (h : StrsAt w v ss) (hm : ss.length ≤ 9223372036854775807) (hz : ∀ i : Nat, (ss[i]?.getD ByteArray.empty).size ≤ 9223372036854775807) :
    Calls Try.prog 13 #[v, .int .i64 1048576] w (SzRes ss w) := by
  obtain ⟨a, cap, rfl, hc⟩ := h
  have HC := Lib.hid hc
  clear hc
  have hm2 : (ss.length : Int) ≤ 9223372036854775807 := by omega
  by_cases hbig : (1048576 : Int) < (ss.length : Int)
  · go_enter Try.func13, Try.ntmps13
    go_wp2
    go_ret
    exact ⟨_, rfl, fun h => absurd h (by decide), rfl⟩
  · have hn : (ss.length : Int) ≤ 1048576 := by omega
    clear hbig
    go_enter Try.func13, Try.ntmps13
    go_wp2
    go_loop [1, 5] (fun l i => ∃ k : Nat, k ≤ ss.length ∧ i = .int .i64 k ∧ ss.length + tot (ss.take k) ≤ 1048576 ∧ l = .int .i64 (1048576 - (ss.length : Int) - (tot (ss.take k) : Nat))) (fun _ i => ss.length - (intOf i).toNat)
    case atStart => exact ⟨0, Nat.zero_le _, rfl, by simp [tot]; omega, by simp [tot]⟩
    case round =>
      obtain ⟨k, hk, rfl, hle, rfl⟩ := hrel
      by_cases hlt : k < ss.length
      · obtain ⟨b, off, rfl, _, hcell⟩ := HC.out (by omega)
        have c1 := hcell k hlt
        have hx := hz k
        have HT := Lib.hid (tot_take hlt)
        have hk0 : (0 : Int) ≤ (k : Int) := by omega
        have hk1 : (k : Int) < (ss.length : Int) := by omega
        clear HC hcell hz
        generalize ss[k]?.getD ByteArray.empty = x at c1 hx HT
        by_cases hl : ss.length + (tot (ss.take k) + x.size) ≤ 1048576
        · have hl2 : (0 : Int) ≤ 1048576 - (ss.length : Int) - (tot (ss.take k) : Nat) - (x.size : Int) := by omega
          go_wp2
          go_round
          case rel => exact ⟨k + 1, by omega, by go_num, by rw [HT.out]; omega, by rw [HT.out]; go_num⟩
          case measure => simp [intOf]; omega
        · have hl2 : 1048576 - (ss.length : Int) - (tot (ss.take k) : Nat) - (x.size : Int) < 0 := by omega
          go_wp2
          go_ret
          exact ⟨_, rfl, fun h => absurd h (by decide), rfl⟩
      · obtain rfl : k = ss.length := by omega
        rw [List.take_length] at hle ⊢
        go_wp2
        go_ret
        exact ⟨_, rfl, fun _ => hle, rfl⟩
end Go.Proofs.Ythcoogljaagneaa
