/- Join, of the program and of the reference; the laws' copy and measure of slices of strings. -/
import Derived.Test.YtnibknaemgpjdaaDoorStrs
import Derived.Test.YtnibknaemgpjdaaDoorByt
import Derived.Test.YtnibknaemgpjdaaDoorNum
import Derived.Test.YtnibknaemgpjdaaDoorShelf
import Derived.Laws.MakeOwn
import Derived.Lib.Join
import Derived.WalkSpells
import Derived.WalkLawsBesides
import Derived.Outline
namespace Go.Proofs.YtnibknaemgpjdaaDoor
open Go.RowKit

/-- As the reference's loop joins the first k. -/
def jn (sep : ByteArray) (ss : List ByteArray) : Nat → ByteArray
  | 0 => ⟨#[]⟩
  | k + 1 => (if k = 0 then ⟨#[]⟩ else jn sep ss k ++ sep) ++ (ss[k]?.getD ByteArray.empty)
/-- How long all are together. -/
def tot : List ByteArray → Nat
  | [] => 0
  | s :: r => s.size + tot r
theorem tot_snoc (x : ByteArray) : ∀ l : List ByteArray, tot (l ++ [x]) = tot l + x.size
  | [] => by simp [tot]
  | y :: l => by rw [List.cons_append, tot, tot, tot_snoc x l]; omega
theorem tot_take {ss : List ByteArray} {k : Nat} (h : k < ss.length) : tot (ss.take (k + 1)) = tot (ss.take k) + (ss[k]?.getD ByteArray.empty).size := by
  rw [List.take_add_one, List.getElem?_eq_getElem h, Option.toList, tot_snoc]; rfl
theorem tot_le (ss : List ByteArray) (k : Nat) : tot (ss.take k) ≤ tot ss := by
  have h : ∀ a b : List ByteArray, tot (a ++ b) = tot a + tot b := by
    intro a b
    induction a with
    | nil => simp [tot]
    | cons x a ih => rw [List.cons_append, tot, tot, ih]; omega
  have h2 := h (ss.take k) (ss.drop k)
  rw [List.take_append_drop] at h2
  omega
theorem jn_size (sep : ByteArray) (ss : List ByteArray) : ∀ k, k ≤ ss.length → (jn sep ss k).size ≤ tot (ss.take k) + k * sep.size
  | 0, _ => Nat.zero_le _
  | k + 1, h => by
    have ih := jn_size sep ss k (by omega)
    rw [jn, tot_take (by omega), size_app]
    by_cases hk : k = 0
    · rw [if_pos hk]
      have e : (⟨#[]⟩ : ByteArray).size = 0 := rfl
      omega
    · rw [if_neg hk, size_app, Nat.succ_mul]; omega
theorem joinL_snoc (l : List UInt8) (x : List UInt8) : ∀ {r : List (List UInt8)}, r ≠ [] → joinL l (r ++ [x]) = joinL l r ++ (l ++ x)
  | [], h => absurd rfl h
  | [y], _ => rfl
  | y :: z :: r, _ => by
    have := joinL_snoc l x (r := z :: r) (by simp)
    simp only [List.cons_append] at this ⊢
    rw [joinL, this, joinL]
    simp
theorem jn_data (sep : ByteArray) (ss : List ByteArray) : ∀ k, k ≤ ss.length → (jn sep ss k).data.toList = joinL sep.data.toList ((ss.take k).map (·.data.toList))
  | 0, _ => rfl
  | k + 1, h => by
    have ih := jn_data sep ss k (by omega)
    have hlt : k < ss.length := by omega
    rw [jn, List.take_add_one, List.getElem?_eq_getElem hlt, data_app]
    simp only [Option.toList, List.map_append, List.map_cons, List.map_nil, Option.getD_some]
    by_cases hk : k = 0
    · subst hk
      rw [if_pos rfl]
      simp [joinL]
    · rw [if_neg hk, joinL_snoc _ _ (fun e => by
        have h5 := congrArg List.length e
        rw [List.length_map, List.length_take, List.length_nil] at h5
        omega), data_app, ih]
      simp
theorem lib_join (sep : List UInt8) : ∀ ws : List (List UInt8), Lib.join ws sep = joinL sep ws
  | [] => rfl
  | [x] => Lib.join_one x sep
  | x :: y :: r => by
    have := lib_join sep (y :: r)
    rw [joinL, ← this]
    simp [Lib.join, List.intercalate, List.intersperse]
theorem joinL_len (sep : ByteArray) (ss : List ByteArray) : (joinL sep.data.toList (ss.map (·.data.toList))).length ≤ tot ss + ss.length * sep.size := by
  have h1 := jn_data sep ss ss.length (Nat.le_refl _)
  have h2 := jn_size sep ss ss.length (Nat.le_refl _)
  rw [List.take_length] at h1 h2
  rw [← h1, ← size_data]
  exact h2

set_option maxHeartbeats 1000000 in
theorem joinS (v : Value) (ss : List ByteArray) (sep : ByteArray) (w : World) (h : StrsAt w v ss) (hn : ss.length ≤ 4194304) (ht : tot ss ≤ 67108864) (hs : sep.size ≤ 4194304) :
    Calls Tryd.prog 80 #[v, .string sep] w fun e w' => e = .returned (.string ⟨(joinL sep.data.toList (ss.map (·.data.toList))).toArray⟩) ∧ w = w' := by
  obtain ⟨a, cap, rfl, hc⟩ := h
  have HC := Lib.hid hc
  clear hc
  go_enter Tryd.func80, Tryd.ntmps80
  go_wp2
  go_loop [5, 10] (fun s i => ∃ k : Nat, k ≤ ss.length ∧ i = .int .i64 k ∧ s = .string (jn sep ss k)) (fun _ i => ss.length - (intOf i).toNat)
  case atStart => exact ⟨0, Nat.zero_le _, rfl, rfl⟩
  case round =>
    obtain ⟨k, hk, rfl, rfl⟩ := hrel
    by_cases hlt : k < ss.length
    · obtain ⟨b, off, rfl, _, hcell⟩ := HC.out (by omega)
      have c1 := hcell k hlt
      have h1 := jn_size sep ss k (by omega)
      have h2 := tot_take hlt
      have h3 := tot_le ss (k + 1)
      have h4 : k * sep.size ≤ 4194304 * 4194304 := Nat.mul_le_mul (by omega) hs
      have hx : (ss[k]?.getD ByteArray.empty).size ≤ 67108864 := by omega
      have hj : (jn sep ss k).size ≤ 67108864 + 4194304 * 4194304 := by omega
      have HS : Hid (jn sep ss (k + 1) = (if k = 0 then ⟨#[]⟩ else jn sep ss k ++ sep) ++ (ss[k]?.getD ByteArray.empty)) := Lib.hid rfl
      have hk0 : (0 : Int) ≤ (k : Int) := by omega
      have hk1 : (k : Int) < (ss.length : Int) := by omega
      clear HC hcell h1 h2 h3 h4
      generalize ss[k]?.getD ByteArray.empty = x at c1 hx HS
      have hsz : (jn sep ss k ++ sep).size ≤ 67108864 + 4194304 * 4194304 + 4194304 := by rw [size_app]; omega
      by_cases hz : k = 0
      · have hz1 : ¬ (0 : Int) < (k : Int) := by omega
        have HZ := Lib.hid hz
        clear hz
        go_wp2
        go_round
        case rel => exact ⟨k + 1, by omega, by go_num, by rw [HS.out, if_pos HZ.out, HZ.out]; rfl⟩
        case measure => simp [intOf]; omega
      · have hz1 : (0 : Int) < (k : Int) := by omega
        go_wp2
        go_round
        case rel => exact ⟨k + 1, by omega, by go_num, by rw [HS.out, if_neg hz]⟩
        case measure => simp [intOf]; omega
    · obtain rfl : k = ss.length := by omega
      go_wp2
      go_ret
      refine ⟨ret_str (bytes_ext ?_), rfl⟩
      rw [jn_data _ _ _ (Nat.le_refl _), List.take_length, data_mk]

theorem joinCall (v : Value) (ss : List ByteArray) (sep : ByteArray) (w : World) (h : StrsAt w v ss) (hcap : ∀ a n c, v = .slice a n c → n ≤ c) (hn : ss.length ≤ 4194304) (ht : tot ss ≤ 67108864) (hs : sep.size ≤ 4194304) :
    Calls Tryd.prog 89 #[v, .string sep] w fun e w' => e = .returned (.string ⟨(joinL sep.data.toList (ss.map (·.data.toList))).toArray⟩) ∧ Below w.heap.size w w' := by
  obtain ⟨a, cap, rfl, hc⟩ := h
  cases ss with
  | nil =>
    refine (Tryd.strings_Join_none a cap sep w).mono ?_
    rintro e w' ⟨rfl, rfl⟩
    exact ⟨rfl, Below.refl _ _⟩
  | cons s0 r =>
    obtain ⟨b, off, rfl, hlt, hcell⟩ := hc (by simp)
    have hl := joinL_len sep (s0 :: r)
    have h4 : (s0 :: r).length * sep.size ≤ 4194304 * 4194304 := Nat.mul_le_mul hn hs
    have := Tryd.strings_Join b off cap (s0 :: r) sep w (fun j x hx => by
      have hj : j < (s0 :: r).length := (List.getElem?_eq_some_iff.1 hx).1
      rw [hcell j hj, hx]; rfl) hlt (by omega) (hcap _ _ _ rfl) (by rw [lib_join]; omega)
    rw [lib_join] at this
    exact this
set_option maxHeartbeats 1000000 in
theorem joinI (v : Value) (ss : List ByteArray) (sep : ByteArray) (w : World) (h : StrsAt w v ss) (hcap : ∀ a n c, v = .slice a n c → n ≤ c) (hn : ss.length ≤ 4194304) (ht : tot ss ≤ 67108864) (hs : sep.size ≤ 4194304) :
    Calls Tryd.prog 22 #[v, .string sep] w fun e w' => e = .returned (.string ⟨(joinL sep.data.toList (ss.map (·.data.toList))).toArray⟩) ∧ Below w.heap.size w w' := by
  have HJ := Lib.hid (joinCall v ss sep w h hcap hn ht hs)
  obtain ⟨a, cap, rfl, hc⟩ := h
  clear hc hcap
  go_enter Tryd.func22, Tryd.ntmps22
  go_wp2_with (first | (go_at_call 89; refine HJ.out.mono ?_; rintro e w' ⟨rfl, hb⟩) | go_in)
  go_ret
  exact ⟨rfl, hb⟩

end Go.Proofs.YtnibknaemgpjdaaDoor
