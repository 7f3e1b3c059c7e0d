/- Decimal numbers as texts: what is read is what was written. No program in sight. -/
import Derived.Test.YtnibknaemgpjdaaDoorTxt
import Derived.Lib.ItoaNum
import Derived.Lib.AtoiAllCases
namespace Go.Proofs.YtnibknaemgpjdaaDoor
open Go.Lib (decDigits itoa nDigits)

/-- The number that digits spell, behind what was spelled before. -/
def valN : List UInt8 → Nat → Nat
  | [], a => a
  | c :: l, a => valN l (a * 10 + (c.toNat - 48))
/-- The number that a text spells, its sign first. -/
def valS : List UInt8 → Int
  | [] => 0
  | c :: l => if c = 45 then -(valN l 0 : Int) else (valN (c :: l) 0 : Int)
/-- The numbers that have a text. -/
def inR (n : Int) : Bool := decide (-1000000000 ≤ n) && decide (n ≤ 1000000000)
theorem inR_iff {n : Int} : inR n = true ↔ -1000000000 ≤ n ∧ n ≤ 1000000000 := by unfold inR; simp
theorem inR_not {n : Int} (h : inR n = false) : n < -1000000000 ∨ 1000000000 < n := by unfold inR at h; simp at h; omega
/-- The text of a number; empty out of range. -/
def fmtZ (n : Int) : List UInt8 := if inR n then itoa n else []
/-- The number whose text it is. -/
def numOf (l : List UInt8) : Option Int := if l ≠ [] ∧ fmtZ (valS l) = l then some (valS l) else none

theorem valN_snoc (c : UInt8) : ∀ (l : List UInt8) (a : Nat), valN (l ++ [c]) a = valN l a * 10 + (c.toNat - 48)
  | [], _ => rfl
  | b :: l, a => by rw [List.cons_append, valN, valN, valN_snoc c l]
theorem valN_le : ∀ (l : List UInt8) (a : Nat), a ≤ valN l a
  | [], a => Nat.le_refl _
  | c :: l, a => by
    have := valN_le l (a * 10 + (c.toNat - 48))
    rw [valN]; omega
theorem digit_toNat {u : Nat} (h : u < 10) : (UInt8.ofNat (48 + u)).toNat = 48 + u := by
  simp; omega
theorem decDigits_small {u : Nat} (h : u < 10) : decDigits u = [UInt8.ofNat (48 + u)] := by rw [decDigits, dif_pos h]
theorem decDigits_big {u : Nat} (h : ¬ u < 10) : decDigits u = decDigits (u / 10) ++ [UInt8.ofNat (48 + u % 10)] := by rw [decDigits, dif_neg h]
theorem decDigits_ne (u : Nat) : decDigits u ≠ [] := by
  by_cases h : u < 10
  · rw [decDigits_small h]; simp
  · rw [decDigits_big h]; simp
/-- A digit. -/
def isDig (c : UInt8) : Prop := 48 ≤ c.toNat ∧ c.toNat ≤ 57
theorem decDigits_dig (u : Nat) : ∀ c ∈ decDigits u, isDig c := by
  induction u using Nat.strongRecOn with
  | _ u ih =>
    intro c hc
    by_cases h : u < 10
    · rw [decDigits_small h] at hc
      simp only [List.mem_singleton] at hc
      subst hc
      unfold isDig
      rw [digit_toNat h]; omega
    · rw [decDigits_big h] at hc
      rcases List.mem_append.1 hc with hc | hc
      · exact ih (u / 10) (by omega) c hc
      · simp only [List.mem_singleton] at hc
        subst hc
        unfold isDig
        rw [digit_toNat (by omega)]; omega
theorem valN_dec (u : Nat) : valN (decDigits u) 0 = u := by
  induction u using Nat.strongRecOn with
  | _ u ih =>
    by_cases h : u < 10
    · rw [decDigits_small h, valN, valN, digit_toNat h]; omega
    · rw [decDigits_big h, valN_snoc, ih (u / 10) (by omega), digit_toNat (by omega)]; omega
theorem decDigits_len (k : Nat) : ∀ u, u < 10 ^ (k + 1) → (decDigits u).length ≤ k + 1 := by
  induction k with
  | zero => intro u h; rw [decDigits_small (by simpa using h)]; simp
  | succ k ih =>
    intro u h
    by_cases hu : u < 10
    · rw [decDigits_small hu]; simp
    · rw [decDigits_big hu]
      have := ih (u / 10) (by rw [Nat.pow_succ] at h; omega)
      simp; omega
theorem head_ne {u : Nat} {c : UInt8} {l : List UInt8} (h : decDigits u = c :: l) : c ≠ 45 := by
  have := decDigits_dig u c (by rw [h]; simp)
  unfold isDig at this
  rintro rfl
  simp at this
theorem valS_itoa (n : Int) : valS (itoa n) = n := by
  unfold itoa
  split
  · rw [valS, if_pos rfl, valN_dec]; omega
  · cases h : decDigits n.toNat with
    | nil => exact absurd h (decDigits_ne _)
    | cons c l =>
      rw [valS, if_neg (head_ne h), ← h, valN_dec]; omega
theorem itoa_ne (n : Int) : itoa n ≠ [] := by
  unfold itoa
  split
  · simp
  · exact decDigits_ne _
theorem itoa_inj {a b : Int} (h : itoa a = itoa b) : a = b := by rw [← valS_itoa a, h, valS_itoa]
theorem fmtZ_in {n : Int} (h : inR n = true) : fmtZ n = itoa n := by unfold fmtZ; rw [if_pos h]
theorem fmtZ_out {n : Int} (h : inR n = false) : fmtZ n = [] := by unfold fmtZ; rw [h]; rfl
theorem fmtZ_nil {n : Int} : fmtZ n = [] ↔ inR n = false := by
  cases h : inR n with
  | false => simp [fmtZ_out h]
  | true => simp [fmtZ_in h, itoa_ne]
theorem numOf_itoa {n : Int} (h : inR n = true) : numOf (itoa n) = some n := by
  unfold numOf
  rw [valS_itoa, fmtZ_in h, if_pos ⟨itoa_ne n, rfl⟩]
theorem numOf_some {l : List UInt8} {n : Int} (h : numOf l = some n) : inR n = true ∧ itoa n = l := by
  unfold numOf at h
  split at h
  · rename_i hc
    have e := Option.some.inj h
    rw [e] at hc
    cases hr : inR n with
    | false => rw [fmtZ_out hr] at hc; exact absurd hc.2.symm hc.1
    | true => rw [fmtZ_in hr] at hc; exact ⟨rfl, hc.2⟩
  · cases h
theorem numOf_of {l : List UInt8} (h0 : l ≠ []) (h : fmtZ (valS l) = l) : numOf l = some (valS l) := by unfold numOf; rw [if_pos ⟨h0, h⟩]
theorem numOf_not {l : List UInt8} (h : fmtZ (valS l) ≠ l) : numOf l = none := by unfold numOf; rw [if_neg fun hc => h hc.2]
theorem numOf_nil : numOf [] = none := by unfold numOf; rw [if_neg fun hc => hc.1 rfl]
/-- The bytes of a number's text. -/
theorem itoa_bytes {n : Int} {k : Nat} {c : UInt8} (h : (itoa n)[k]? = some c) : (k = 0 ∧ c = 45) ∨ isDig c := by
  unfold itoa at h
  split at h
  · cases k with
    | zero => simp at h; exact .inl ⟨rfl, h.symm⟩
    | succ k =>
      rw [List.getElem?_cons_succ] at h
      exact .inr (decDigits_dig _ c (List.mem_of_getElem? h))
  · exact .inr (decDigits_dig _ c (List.mem_of_getElem? h))
theorem itoa_mem {n : Int} {c : UInt8} (h : c ∈ itoa n) : c = 45 ∨ isDig c := by
  obtain ⟨k, hk⟩ := List.getElem?_of_mem h
  rcases itoa_bytes hk with ⟨_, h⟩ | h
  · exact .inl h
  · exact .inr h
theorem itoa_len {n : Int} (h : inR n = true) : (itoa n).length ≤ 11 := by
  have hr := inR_iff.1 h
  unfold itoa
  split
  · have := decDigits_len 9 n.natAbs (by omega)
    simp; omega
  · have := decDigits_len 9 n.toNat (by omega)
    omega
theorem numOf_long {l : List UInt8} (h : 12 < l.length) : numOf l = none := by
  cases hn : numOf l with
  | none => rfl
  | some n =>
    obtain ⟨h1, h2⟩ := numOf_some hn
    have := itoa_len h1
    rw [h2] at this; omega
theorem numOf_bad {l : List UInt8} {k : Nat} {c : UInt8} (h : l[k]? = some c) (h1 : ¬ (k = 0 ∧ c = 45)) (h2 : ¬ isDig c) : numOf l = none := by
  cases hn : numOf l with
  | none => rfl
  | some n =>
    obtain ⟨_, e⟩ := numOf_some hn
    rw [← e] at h
    rcases itoa_bytes h with h | h
    · exact absurd h h1
    · exact absurd h h2

/-! ### Atoi reads what was written -/
theorem parseUint10_val : ∀ (l : List UInt8) (a : Nat), (∀ c ∈ l, isDig c) → valN l a < 9223372036854775808 → Lib.parseUint10 a l = .ok (valN l a)
  | [], a, _, _ => rfl
  | c :: l, a, hd, hv => by
    have hc := hd c (by simp)
    unfold isDig at hc
    rw [valN] at hv
    have := valN_le l (a * 10 + (c.toNat - 48))
    rw [Lib.parseUint10, if_pos hc, if_neg (by omega), if_neg (by omega), valN, parseUint10_val l _ (fun x hx => hd x (by simp [hx])) hv]
theorem parseMag_dec (u : Nat) (h : u < 9223372036854775808) : Lib.parseMag (decDigits u) = .ok u := by
  rw [Lib.parseMag, if_neg (decDigits_ne u), parseUint10_val _ _ (decDigits_dig u) (by rw [valN_dec]; exact h), valN_dec]
theorem atoiAll_itoa {n : Int} (h : inR n = true) : Lib.atoiAll (itoa n) = .ok n := by
  have hr := inR_iff.1 h
  unfold itoa
  split
  · rw [Lib.atoiAll_minus, parseMag_dec _ (by omega), Lib.signed, if_neg (by omega)]
    congr 1; omega
  · cases hd : decDigits n.toNat with
    | nil => exact absurd hd (decDigits_ne _)
    | cons c l =>
      have hdig := decDigits_dig n.toNat c (by rw [hd]; simp)
      unfold isDig at hdig
      rw [Lib.atoiAll_plain c l (by omega) (by omega), ← hd, parseMag_dec _ (by omega), Lib.signless, if_neg (by omega)]
      congr 1; omega
theorem numOf_atoi {l : List UInt8} {n : Int} (h : numOf l = some n) : Lib.atoiAll l = .ok n := by
  obtain ⟨h1, h2⟩ := numOf_some h
  rw [← h2]; exact atoiAll_itoa h1
theorem numOf_of_atoi {l : List UInt8} {v : Int} (h : Lib.atoiAll l = .ok v) : numOf l = if l ≠ [] ∧ fmtZ v = l then some v else none := by
  split
  · rename_i hc
    cases hr : inR v with
    | false => rw [fmtZ_out hr] at hc; exact absurd hc.2.symm hc.1
    | true => rw [fmtZ_in hr] at hc; rw [← hc.2]; exact numOf_itoa hr
  · rename_i hc
    cases hn : numOf l with
    | none => rfl
    | some n =>
      exfalso
      have h2 := numOf_atoi hn
      rw [h] at h2
      injection h2 with h2
      subst h2
      obtain ⟨h3, h4⟩ := numOf_some hn
      exact hc ⟨by rw [← h4]; exact itoa_ne v, by rw [fmtZ_in h3]; exact h4⟩
theorem numOf_of_fail {l : List UInt8} (h : ∀ v, Lib.atoiAll l ≠ .ok v) : numOf l = none := by
  cases hn : numOf l with
  | none => rfl
  | some n => exact absurd (numOf_atoi hn) (h n)

/-! ### Lists of numbers -/
def allNums : List (List UInt8) → Option (List Int)
  | [] => some []
  | x :: r => match numOf x, allNums r with
    | some n, some t => some (n :: t)
    | _, _ => none
theorem allNums_snoc (x : List UInt8) : ∀ l : List (List UInt8), allNums (l ++ [x]) = match allNums l, numOf x with
    | some t, some n => some (t ++ [n])
    | _, _ => none
  | [] => by cases h : numOf x <;> simp [allNums, h]
  | y :: l => by
    rw [List.cons_append, allNums, allNums_snoc x l, allNums]
    cases h1 : numOf y <;> cases h2 : allNums l <;> cases h3 : numOf x <;> simp
theorem allNums_none {l r : List (List UInt8)} (h : allNums l = none) : allNums (l ++ r) = none := by
  induction l with
  | nil => simp [allNums] at h
  | cons x l ih =>
    rw [List.cons_append, allNums]
    rw [allNums] at h
    cases h1 : numOf x with
    | none => rfl
    | some n =>
      rw [h1] at h
      cases h2 : allNums l with
      | none => rw [ih h2]
      | some t => rw [h2] at h; cases h
theorem allNums_map : ∀ {l : List Int}, (∀ n ∈ l, inR n = true) → allNums (l.map itoa) = some l
  | [], _ => rfl
  | n :: l, h => by
    rw [List.map_cons, allNums, numOf_itoa (h n (by simp)), allNums_map (fun m hm => h m (by simp [hm]))]
theorem allNums_some : ∀ {ws : List (List UInt8)} {l : List Int}, allNums ws = some l → ws = l.map itoa ∧ ∀ n ∈ l, inR n = true
  | [], l, h => by
    obtain rfl : [] = l := Option.some.inj h
    exact ⟨rfl, fun n hn => by cases hn⟩
  | x :: r, l, h => by
    rw [allNums] at h
    cases h1 : numOf x with
    | none => rw [h1] at h; cases h
    | some n =>
      cases h2 : allNums r with
      | none => rw [h1, h2] at h; cases h
      | some t =>
        rw [h1, h2] at h
        obtain rfl : n :: t = l := Option.some.inj h
        obtain ⟨e1, e2⟩ := allNums_some h2
        obtain ⟨e3, e4⟩ := numOf_some h1
        refine ⟨by rw [List.map_cons, e4, ← e1], fun m hm => ?_⟩
        rcases List.mem_cons.1 hm with rfl | hm
        · exact e3
        · exact e2 m hm

/-! ### Splitting what was joined, joining what was split -/
theorem splitL_none {p : UInt8 → Bool} : ∀ {x : List UInt8}, (∀ c ∈ x, p c = false) → splitL p x = [x]
  | [], _ => rfl
  | c :: x, h => by rw [splitL, h c (by simp), splitL_none (fun b hb => h b (by simp [hb]))]; rfl
theorem splitL_app {p : UInt8 → Bool} {d : UInt8} (hd : p d = true) (r : List UInt8) : ∀ {x : List UInt8}, (∀ c ∈ x, p c = false) → splitL p (x ++ d :: r) = x :: splitL p r
  | [], _ => by rw [List.nil_append, splitL, if_pos hd]
  | c :: x, h => by
    rw [List.cons_append, splitL, h c (by simp), splitL_app hd r (fun b hb => h b (by simp [hb]))]; rfl
theorem split_join {p : UInt8 → Bool} {d : UInt8} (hd : p d = true) : ∀ {ws : List (List UInt8)}, ws ≠ [] → (∀ w ∈ ws, ∀ c ∈ w, p c = false) → splitL p (joinL [d] ws) = ws
  | [], h, _ => absurd rfl h
  | [x], _, h => by rw [joinL, splitL_none (h x (by simp))]
  | x :: y :: r, _, h => by
    rw [joinL, List.singleton_append, splitL_app hd _ (h x (by simp)), split_join hd (by simp) (fun w hw => h w (by simp only [List.mem_cons] at hw ⊢; exact .inr hw))]
theorem joinL_cons (d : List UInt8) (x : List UInt8) {r : List (List UInt8)} (h : r ≠ []) : joinL d (x :: r) = x ++ (d ++ joinL d r) := by
  cases r with
  | nil => exact absurd rfl h
  | cons y r => rfl
theorem join_split (d : UInt8) : ∀ l : List UInt8, joinL [d] (splitL (fun c => c == d) l) = l
  | [] => rfl
  | c :: l => by
    have ih := join_split d l
    have hne := splitL_ne (fun c => c == d) l
    rw [splitL]
    by_cases hc : (c == d) = true
    · rw [if_pos hc, joinL_cons _ _ hne, ih]
      have : c = d := by simpa using hc
      rw [this]; rfl
    · rw [if_neg hc]
      cases hs : splitL (fun c => c == d) l with
      | nil => exact absurd hs hne
      | cons h t =>
        rw [hs] at ih
        cases t with
        | nil => simp only [joinL] at ih ⊢; rw [ih]
        | cons y t => simp only [joinL] at ih ⊢; rw [← ih]; rfl

/-- The text of a list of numbers. -/
def fmtInts (l : List Int) : List UInt8 := if l = [] then [45] else if l.all inR then joinL [44] (l.map itoa) else []
/-- The list whose text it is. -/
def intsOf (s : List UInt8) : Option (List Int) := if s = [45] then some [] else allNums (splitL (fun c => c == 44) s)
theorem dig_ne {c d : UInt8} (h : c = 45 ∨ isDig c) (hd : d ≠ 45) (hd2 : d.toNat < 48 ∨ 57 < d.toNat) : (c == d) = false := by
  have : c ≠ d := by
    rintro rfl
    rcases h with h | h
    · exact hd h
    · unfold isDig at h; omega
  simpa using this
theorem itoas_no {l : List Int} {d : UInt8} (hd : d ≠ 45) (hd2 : d.toNat < 48 ∨ 57 < d.toNat) : ∀ w ∈ l.map itoa, ∀ c ∈ w, (c == d) = false := by
  intro w hw c hc
  obtain ⟨n, _, rfl⟩ := List.mem_map.1 hw
  exact dig_ne (itoa_mem hc) hd hd2
theorem split_itoas {l : List Int} (h : l ≠ []) : splitL (fun c => c == 44) (joinL [44] (l.map itoa)) = l.map itoa :=
  split_join (by decide) (by simpa using h) (itoas_no (by decide) (by decide))
theorem itoa_not_minus (n : Int) : itoa n ≠ [45] := by
  intro h
  unfold itoa at h
  split at h
  · simp only [List.cons.injEq, true_and] at h
    exact decDigits_ne _ h
  · exact head_ne h rfl
theorem join_not_minus {l : List Int} (h : l ≠ []) : joinL [44] (l.map itoa) ≠ [45] := by
  intro e
  have h1 := split_itoas h
  rw [e] at h1
  have h2 : splitL (fun c => c == 44) [45] = [[45]] := by decide
  rw [h2] at h1
  cases l with
  | nil => exact h rfl
  | cons n l =>
    simp only [List.map_cons, List.cons.injEq] at h1
    exact itoa_not_minus n h1.1.symm
theorem fmtInts_in {l : List Int} (h : l ≠ []) (ha : ∀ n ∈ l, inR n = true) : fmtInts l = joinL [44] (l.map itoa) := by
  unfold fmtInts
  rw [if_neg h, if_pos (List.all_eq_true.2 ha)]
theorem intsOf_fmt {l : List Int} (ha : ∀ n ∈ l, inR n = true) : intsOf (fmtInts l) = some l := by
  by_cases h : l = []
  · subst h; rfl
  · rw [fmtInts_in h ha, intsOf, if_neg (join_not_minus h), split_itoas h, allNums_map ha]
theorem fmt_intsOf {s : List UInt8} {l : List Int} (h : intsOf s = some l) : fmtInts l = s ∧ ∀ n ∈ l, inR n = true := by
  unfold intsOf at h
  split at h
  · rename_i hs
    obtain rfl : [] = l := Option.some.inj h
    exact ⟨hs.symm, fun n hn => by cases hn⟩
  · obtain ⟨e1, e2⟩ := allNums_some h
    have hne : l ≠ [] := by
      rintro rfl
      exact splitL_ne _ _ e1
    refine ⟨?_, e2⟩
    rw [fmtInts_in hne e2, ← e1, join_split]
end Go.Proofs.YtnibknaemgpjdaaDoor
