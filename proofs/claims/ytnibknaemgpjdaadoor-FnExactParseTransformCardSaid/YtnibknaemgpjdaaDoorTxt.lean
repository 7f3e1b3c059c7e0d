/- Texts as lists of pieces: splitting at the bytes that a test picks, joining with a separator. No program in sight. -/
import Derived.Lib.Strings
import Derived.Lib.Bytealg
import Derived.Lib.IndexBytes
namespace Go.Proofs.YtnibknaemgpjdaaDoor

theorem bytes_ext {a b : ByteArray} (h : a.data.toList = b.data.toList) : a = b := by
  cases a; cases b
  congr 1
  exact Array.ext' h
theorem data_mk (l : List UInt8) : (⟨l.toArray⟩ : ByteArray).data.toList = l := by simp
theorem bytes_eq_mk (a : ByteArray) : a = ⟨a.data.toList.toArray⟩ := by cases a; simp
theorem size_data (a : ByteArray) : a.size = a.data.toList.length := Lib.size_eq a
theorem get_bang {s : ByteArray} {k : Nat} (h : k < s.size) : s.get! k = s[k]'h := by
  cases s with
  | mk d => exact getElem!_pos d k h
theorem get_list {s : ByteArray} {k : Nat} (h : k < s.size) : s.data.toList[k]? = some (s[k]'h) := Lib.data_getElem? s k h

/-- The byte of a digit. -/
def digC (d : Nat) : UInt8 := UInt8.ofNat (48 + d)
theorem digC_eq (d : Nat) : digC d = UInt8.ofNat (48 + d) := rfl

/-- The pieces of s that end ahead of byte k, at the bytes that p picks; and where the next piece begins. -/
def cuts (s : ByteArray) (p : UInt8 → Bool) : Nat → List ByteArray × Nat
  | 0 => ([], 0)
  | k + 1 => if p (s.get! k) then ((cuts s p k).1 ++ [s.extract (cuts s p k).2 k], k + 1) else cuts s p k
/-- All the pieces. -/
def pieces (s : ByteArray) (p : UInt8 → Bool) : List ByteArray := (cuts s p s.size).1 ++ [s.extract (cuts s p s.size).2 s.size]

section
variable {s : ByteArray} {p : UInt8 → Bool} {k : Nat}
theorem cuts_hit (hk : k < s.size) (h : p (s[k]'hk) = true) : cuts s p (k + 1) = ((cuts s p k).1 ++ [s.extract (cuts s p k).2 k], k + 1) := by
  rw [cuts, get_bang hk, if_pos h]
theorem cuts_miss (hk : k < s.size) (h : p (s[k]'hk) = false) : cuts s p (k + 1) = cuts s p k := by
  rw [cuts, get_bang hk, h]; rfl
theorem cuts_from (s : ByteArray) (p : UInt8 → Bool) (k : Nat) : (cuts s p k).2 ≤ k := by
  induction k with
  | zero => exact Nat.le_refl _
  | succ k ih =>
    rw [cuts]
    split
    · exact Nat.le_refl _
    · omega
theorem cuts_len (s : ByteArray) (p : UInt8 → Bool) (k : Nat) : (cuts s p k).1.length ≤ k := by
  induction k with
  | zero => exact Nat.le_refl _
  | succ k ih =>
    rw [cuts]
    split
    · simp; omega
    · omega
theorem pieces_len (s : ByteArray) (p : UInt8 → Bool) : (pieces s p).length ≤ s.size + 1 := by
  have := cuts_len s p s.size
  unfold pieces; simp; omega
theorem pieces_pos (s : ByteArray) (p : UInt8 → Bool) : 1 ≤ (pieces s p).length := by
  unfold pieces; simp
end

/-- The pieces as lists of bytes. -/
def splitL (p : UInt8 → Bool) : List UInt8 → List (List UInt8)
  | [] => [[]]
  | c :: l => if p c then [] :: splitL p l else match splitL p l with
    | h :: t => (c :: h) :: t
    | [] => [[c]]
theorem splitL_ne (p : UInt8 → Bool) (l : List UInt8) : splitL p l ≠ [] := by
  cases l with
  | nil => simp [splitL]
  | cons c l =>
    rw [splitL]
    split
    · simp
    · split <;> simp
/-- The last piece grows, or a new one is begun. -/
theorem splitL_snoc (p : UInt8 → Bool) (c : UInt8) : ∀ l : List UInt8, ∃ (i : List (List UInt8)) (h : List UInt8), splitL p l = i ++ [h] ∧ splitL p (l ++ [c]) = if p c then i ++ [h, []] else i ++ [h ++ [c]]
  | [] => ⟨[], [], rfl, by by_cases hc : p c <;> simp [splitL, hc]⟩
  | b :: l => by
    obtain ⟨i, h, h1, h2⟩ := splitL_snoc p c l
    by_cases hb : p b
    · refine ⟨[] :: i, h, by simp [splitL, hb, h1], ?_⟩
      rw [List.cons_append, splitL, if_pos hb, h2]
      split <;> simp
    · cases i with
      | nil =>
        refine ⟨[], b :: h, by simp [splitL, hb, h1], ?_⟩
        rw [List.cons_append, splitL, if_neg hb, h2]
        by_cases hc : p c <;> simp [hc]
      | cons x i =>
        refine ⟨(b :: x) :: i, h, by simp [splitL, hb, h1], ?_⟩
        rw [List.cons_append, splitL, if_neg hb, h2]
        by_cases hc : p c <;> simp [hc]
theorem cuts_list (s : ByteArray) (p : UInt8 → Bool) : ∀ k, k ≤ s.size →
    ((cuts s p k).1.map (·.data.toList)) ++ [(s.data.toList.drop (cuts s p k).2).take (k - (cuts s p k).2)] = splitL p (s.data.toList.take k)
  | 0, _ => by simp [cuts, splitL]
  | k + 1, hk => by
    have ih := cuts_list s p k (by omega)
    have hlt : k < s.size := by omega
    have hl : s.data.toList.take (k + 1) = s.data.toList.take k ++ [s[k]'hlt] := by
      rw [List.take_add_one, get_list hlt]; rfl
    obtain ⟨i, h, h1, h2⟩ := splitL_snoc p (s[k]'hlt) (s.data.toList.take k)
    rw [hl, h2]
    rw [h1] at ih
    obtain ⟨e1, e2⟩ := List.append_inj' ih rfl
    have hf := cuts_from s p k
    by_cases hp : p (s[k]'hlt) = true
    · rw [if_pos hp, cuts_hit hlt hp]
      simp only [List.map_append, List.map_cons, List.map_nil, Nat.sub_self, List.take_zero, Lib.extract_data]
      rw [e1]
      simp only [List.cons.injEq, and_true] at e2
      rw [e2]
      simp
    · rw [if_neg hp, cuts_miss hlt (by simpa using hp), e1]
      simp only [List.cons.injEq, and_true] at e2
      rw [show k + 1 - (cuts s p k).2 = (k - (cuts s p k).2) + 1 by omega, List.take_add_one, e2, List.getElem?_drop, show (cuts s p k).2 + (k - (cuts s p k).2) = k by omega, get_list hlt]
      rfl
theorem pieces_list (s : ByteArray) (p : UInt8 → Bool) : (pieces s p).map (·.data.toList) = splitL p s.data.toList := by
  have h := cuts_list s p s.size (Nat.le_refl _)
  have e : s.data.toList.take s.size = s.data.toList := List.take_of_length_le (by rw [size_data]; exact Nat.le_refl _)
  rw [e] at h
  rw [← h, pieces, List.map_append, List.map_cons, List.map_nil, Lib.extract_data]

/-- One behind the other, l between. -/
def joinL (l : List UInt8) : List (List UInt8) → List UInt8
  | [] => []
  | [x] => x
  | x :: y :: r => x ++ (l ++ joinL l (y :: r))
/-- As a loop does it. -/
def joinUp (sep : ByteArray) : List ByteArray → ByteArray
  | [] => ByteArray.empty
  | x :: r => r.foldl (fun a y => (a ++ sep) ++ y) x

/-- c stands among the bytes of p. -/
def sepB (p : ByteArray) (c : UInt8) : Bool := p.data.toList.contains c
theorem indexByte_ge0 (l : List UInt8) (c : UInt8) : decide (0 ≤ Lib.indexByte l c) = l.contains c := by
  induction l with
  | nil => rfl
  | cons b l ih =>
    have hge := Lib.indexByte_ge l c
    rw [Lib.indexByte, List.contains_cons]
    by_cases hb : b == c
    · rw [if_pos hb]
      have hbc : b = c := by simpa using hb
      subst hbc
      simp
    · rw [if_neg hb]
      have hcb : (c == b) = false := by
        simp at hb ⊢
        exact fun h => hb h.symm
      rw [hcb, Bool.false_or, ← ih]
      by_cases hm : (Lib.indexByte l c == -1) = true
      · rw [if_pos hm]
        have : Lib.indexByte l c = -1 := by simpa using hm
        rw [this]
      · rw [if_neg hm]
        have : Lib.indexByte l c ≠ -1 := by simpa using hm
        simp
        omega
theorem sepB_upto {p : ByteArray} {c : UInt8} (h : ∀ k (hk : k < p.size), (p[k]'hk) ≠ c) : sepB p c = false := by
  unfold sepB
  cases hb : p.data.toList.contains c with
  | false => rfl
  | true =>
    exfalso
    simp only [List.contains_iff_exists_mem_beq, beq_iff_eq] at hb
    obtain ⟨x, hm, rfl⟩ := hb
    obtain ⟨k, hk, e⟩ := List.getElem_of_mem hm
    have hk' : k < p.size := by rw [size_data]; exact hk
    have := get_list hk'
    rw [List.getElem?_eq_getElem hk, e] at this
    exact h k hk' (Option.some.inj this).symm
theorem sepB_at {p : ByteArray} {c : UInt8} {k : Nat} (hk : k < p.size) (h : (p[k]'hk) = c) : sepB p c = true := by
  unfold sepB
  have hm := List.mem_of_getElem? (get_list hk)
  rw [h] at hm
  simpa using hm
end Go.Proofs.YtnibknaemgpjdaaDoor
