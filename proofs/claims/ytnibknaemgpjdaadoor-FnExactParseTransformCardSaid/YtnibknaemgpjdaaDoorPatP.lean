/- The text of a patch: what is read is what was written. No program in sight but for values. -/
import Derived.Test.YtnibknaemgpjdaaDoorParV
import Derived.Test.YtnibknaemgpjdaaDoorFmtX
import Derived.Test.YtnibknaemgpjdaaDoorPatB
namespace Go.Proofs.YtnibknaemgpjdaaDoor
open Go Go.RowKit Go.Sort
open Go.Lib (decDigits itoa)

/-- The vector of a text; nought where there is none. -/
def vz (l : List UInt8) : V3 := (vecOf l).getD (0, 0, 0)
theorem vecV_vz (l : List UInt8) : vecV l = .tuple #[.agg #[.int .i64 (vz l).1, .int .i64 (vz l).2.1, .int .i64 (vz l).2.2], .bool (vecOf l).isSome] := by
  unfold vecV vz
  cases vecOf l with
  | none => rfl
  | some v => rfl
def allVecs : List (List UInt8) → Option (List V3)
  | [] => some []
  | x :: r => match vecOf x, allVecs r with
    | some n, some t => some (n :: t)
    | _, _ => none
theorem allVecs_snoc (x : List UInt8) : ∀ l : List (List UInt8), allVecs (l ++ [x]) = match allVecs l, vecOf x with
    | some t, some n => some (t ++ [n])
    | _, _ => none
  | [] => by cases h : vecOf x <;> simp [allVecs, h]
  | y :: l => by
    rw [List.cons_append, allVecs, allVecs_snoc x l, allVecs]
    cases h1 : vecOf y <;> cases h2 : allVecs l <;> cases h3 : vecOf x <;> simp
theorem allVecs_none {l r : List (List UInt8)} (h : allVecs l = none) : allVecs (l ++ r) = none := by
  induction l with
  | nil => simp [allVecs] at h
  | cons x l ih =>
    rw [List.cons_append, allVecs]
    rw [allVecs] at h
    cases h1 : vecOf x with
    | none => rfl
    | some n =>
      rw [h1] at h
      cases h2 : allVecs l with
      | none => rw [ih h2]
      | some t => rw [h2] at h; cases h
theorem allVecs_some : ∀ {ws : List (List UInt8)} {vs : List V3}, allVecs ws = some vs → ws = vs.map (fun v => fmtV v.1 v.2.1 v.2.2) ∧ vs = ws.map vz ∧ ∀ v ∈ vs, vb v.1 v.2.1 v.2.2 = true
  | [], l, h => by
    obtain rfl : [] = l := Option.some.inj h
    exact ⟨rfl, rfl, fun n hn => by cases hn⟩
  | x :: r, l, h => by
    rw [allVecs] at h
    cases h1 : vecOf x with
    | none => rw [h1] at h; cases h
    | some n =>
      cases h2 : allVecs r with
      | none => rw [h1, h2] at h; cases h
      | some t =>
        rw [h1, h2] at h
        obtain rfl : n :: t = l := Option.some.inj h
        obtain ⟨e1, e2, e3⟩ := allVecs_some h2
        obtain ⟨x', y', z'⟩ := n
        obtain ⟨e4, e5⟩ := fmt_vecOf h1
        have e6 : vz x = (x', y', z') := by unfold vz; rw [h1]; rfl
        refine ⟨by rw [List.map_cons, ← e1, e5], by rw [List.map_cons, ← e2, e6], fun m hm => ?_⟩
        rcases List.mem_cons.1 hm with rfl | hm
        · exact e4
        · exact e3 m hm
theorem allVecs_len {ws : List (List UInt8)} {vs : List V3} (h : allVecs ws = some vs) : vs.length = ws.length := by
  rw [(allVecs_some h).1, List.length_map]
theorem allVecs_fmt : ∀ {vs : List V3}, (∀ v ∈ vs, vb v.1 v.2.1 v.2.2 = true) → allVecs (vs.map fun v => fmtV v.1 v.2.1 v.2.2) = some vs
  | [], _ => rfl
  | v :: vs, h => by
    rw [List.map_cons, allVecs, vecOf_fmt (h v (by simp)), allVecs_fmt (fun u hu => h u (by simp [hu]))]
/-- The four corners whose text it is. -/
def patOf (l : List UInt8) : Option (List V3) :=
  match allVecs (splitL (fun c => c == 32) l) with
  | some vs => if vs.length = 4 then some vs else none
  | none => none
/-- The text of four corners. -/
def txQ (vs : List V3) : ByteArray :=
  txP (vat vs 0).1 (vat vs 0).2.1 (vat vs 0).2.2 (vat vs 1).1 (vat vs 1).2.1 (vat vs 1).2.2 (vat vs 2).1 (vat vs 2).2.1 (vat vs 2).2.2 (vat vs 3).1 (vat vs 3).2.1 (vat vs 3).2.2
def patV (l : List UInt8) : Value := match patOf l with
  | some vs => .tuple #[.agg (cells4 vs), .bool true]
  | none => .tuple #[.agg (cells4 []), .bool false]
theorem patV_some {l : List UInt8} {vs : List V3} (h : patOf l = some vs) : patV l = .tuple #[.agg (cells4 vs), .bool true] := by unfold patV; rw [h]
theorem patV_none {l : List UInt8} (h : patOf l = none) : patV l = .tuple #[.agg (cells4 []), .bool false] := by unfold patV; rw [h]
theorem patOf_bad {l : List UInt8} (h : allVecs (splitL (fun c => c == 32) l) = none) : patOf l = none := by unfold patOf; rw [h]
theorem patOf_len {l : List UInt8} (h : (splitL (fun c => c == 32) l).length ≠ 4) : patOf l = none := by
  unfold patOf
  cases hv : allVecs (splitL (fun c => c == 32) l) with
  | none => rfl
  | some vs =>
    have := allVecs_len hv
    show (if vs.length = 4 then some vs else none) = none
    rw [if_neg (by omega)]
theorem patOf_ok {l : List UInt8} {vs : List V3} (h : allVecs (splitL (fun c => c == 32) l) = some vs) (hl : vs.length = 4) : patOf l = some vs := by
  unfold patOf; rw [h]; exact if_pos hl
theorem patOf_parts {l : List UInt8} {vs : List V3} (h : patOf l = some vs) : allVecs (splitL (fun c => c == 32) l) = some vs ∧ vs.length = 4 := by
  unfold patOf at h
  split at h
  · rename_i us hu
    split at h
    · rename_i hl
      obtain rfl := Option.some.inj h
      exact ⟨hu, hl⟩
    · cases h
  · cases h

/-! ### Writing and reading -/
theorem itoas_bytes {l : List Int} : ∀ c ∈ joinL [44] (l.map itoa), c = 44 ∨ c = 45 ∨ isDig c := by
  induction l with
  | nil => intro c hc; cases hc
  | cons n l ih =>
    intro c hc
    cases l with
    | nil =>
      rcases itoa_mem (show c ∈ itoa n from hc) with h | h
      · exact .inr (.inl h)
      · exact .inr (.inr h)
    | cons m l =>
      rw [List.map_cons, List.map_cons, joinL] at hc
      rcases List.mem_append.1 hc with hc | hc
      · rcases itoa_mem hc with h | h
        · exact .inr (.inl h)
        · exact .inr (.inr h)
      · rcases List.mem_append.1 hc with hc | hc
        · simp only [List.mem_singleton] at hc
          exact .inl hc
        · exact ih c (by rw [List.map_cons]; exact hc)
theorem fmtInts_bytes {l : List Int} : ∀ c ∈ fmtInts l, c = 44 ∨ c = 45 ∨ isDig c := by
  intro c hc
  unfold fmtInts at hc
  split at hc
  · simp only [List.mem_singleton] at hc
    exact .inr (.inl hc)
  · split at hc
    · exact itoas_bytes c hc
    · cases hc
theorem fmtV_bytes {x y z : Int} : ∀ c ∈ fmtV x y z, c = 44 ∨ c = 45 ∨ isDig c := by
  intro c hc
  unfold fmtV at hc
  split at hc
  · exact fmtInts_bytes c hc
  · cases hc
theorem tidy_ne {c d : UInt8} (h : c = 44 ∨ c = 45 ∨ isDig c) (h1 : d ≠ 44) (h2 : d ≠ 45) (h3 : d.toNat < 48 ∨ 57 < d.toNat) : (c == d) = false := by
  have : c ≠ d := by
    rintro rfl
    rcases h with h | h | h
    · exact h1 h
    · exact h2 h
    · unfold isDig at h; omega
  simpa using this
/-- The four texts. -/
def tx4 (vs : List V3) : List (List UInt8) := [vat vs 0, vat vs 1, vat vs 2, vat vs 3].map fun v => fmtV v.1 v.2.1 v.2.2
theorem txQ_valid {vs : List V3} (h : vb (vat vs 0).1 (vat vs 0).2.1 (vat vs 0).2.2 = true ∧ vb (vat vs 1).1 (vat vs 1).2.1 (vat vs 1).2.2 = true ∧ vb (vat vs 2).1 (vat vs 2).2.1 (vat vs 2).2.2 = true ∧ vb (vat vs 3).1 (vat vs 3).2.1 (vat vs 3).2.2 = true) :
    (txQ vs).data.toList = joinL [32] (tx4 vs) := by
  unfold txQ txP
  rw [if_pos (by unfold vbP; rw [h.1, h.2.1, h.2.2.1, h.2.2.2]; rfl), data_mk]
  rfl
theorem txQ_not {vs : List V3} (h : ¬ (vb (vat vs 0).1 (vat vs 0).2.1 (vat vs 0).2.2 = true ∧ vb (vat vs 1).1 (vat vs 1).2.1 (vat vs 1).2.2 = true ∧ vb (vat vs 2).1 (vat vs 2).2.1 (vat vs 2).2.2 = true ∧ vb (vat vs 3).1 (vat vs 3).2.1 (vat vs 3).2.2 = true)) :
    txQ vs = ⟨#[]⟩ := by
  unfold txQ txP
  rw [if_neg]
  intro e
  apply h
  unfold vbP at e
  simpa using e
theorem split_tx4 (vs : List V3) : splitL (fun c => c == 32) (joinL [32] (tx4 vs)) = tx4 vs :=
  split_join (by decide) (by simp [tx4]) (fun w hw c hc => by
    unfold tx4 at hw
    obtain ⟨v, _, rfl⟩ := List.mem_map.1 hw
    exact tidy_ne (fmtV_bytes c hc) (by decide) (by decide) (by decide))
/-- What the reference's loop gathers. -/
def gath (ws : List (List UInt8)) : List V3 := (ws.take 4).map vz
theorem pat_yes {s : ByteArray} {vs : List V3} (h : patOf s.data.toList = some vs) : gath (splitL (fun c => c == 32) s.data.toList) = vs ∧ txQ vs = s ∧ s.toList.isEmpty = false := by
  obtain ⟨h1, h2⟩ := patOf_parts h
  obtain ⟨e1, e2, e3⟩ := allVecs_some h1
  have hl := allVecs_len h1
  have e4 : (splitL (fun c => c == 32) s.data.toList).take 4 = splitL (fun c => c == 32) s.data.toList := List.take_of_length_le (by omega)
  have e5 : tx4 vs = splitL (fun c => c == 32) s.data.toList := by
    rw [e1]
    unfold tx4
    rw [← four_of h2]
  refine ⟨by unfold gath; rw [e4]; exact e2.symm, bytes_ext ?_, ?_⟩
  · rw [txQ_valid ⟨e3 _ (vat_mem (by omega)), e3 _ (vat_mem (by omega)), e3 _ (vat_mem (by omega)), e3 _ (vat_mem (by omega))⟩, e5, join_split]
  · rw [Lib.toList_data]
    cases he : s.data.toList with
    | nil =>
      rw [he] at hl
      have : (splitL (fun c => c == 32) ([] : List UInt8)).length = 1 := rfl
      omega
    | cons c l => rfl
theorem pat_no {s : ByteArray} (h : patOf s.data.toList = none) : (txQ (gath (splitL (fun c => c == 32) s.data.toList))).toList.isEmpty = true ∨ ((txQ (gath (splitL (fun c => c == 32) s.data.toList))).toList == s.toList) = false := by
  generalize hg : gath (splitL (fun c => c == 32) s.data.toList) = us
  by_cases hv : vb (vat us 0).1 (vat us 0).2.1 (vat us 0).2.2 = true ∧ vb (vat us 1).1 (vat us 1).2.1 (vat us 1).2.2 = true ∧ vb (vat us 2).1 (vat us 2).2.1 (vat us 2).2.2 = true ∧ vb (vat us 3).1 (vat us 3).2.1 (vat us 3).2.2 = true
  · refine .inr ?_
    rw [Lib.toList_data, Lib.toList_data, txQ_valid hv]
    simp only [beq_eq_false_iff_ne, ne_eq]
    intro e
    have h1 := split_tx4 us
    rw [e] at h1
    have h2 : allVecs (tx4 us) = some [vat us 0, vat us 1, vat us 2, vat us 3] := allVecs_fmt (fun v hm => by
      simp only [List.mem_cons, List.not_mem_nil, or_false] at hm
      rcases hm with rfl | rfl | rfl | rfl
      · exact hv.1
      · exact hv.2.1
      · exact hv.2.2.1
      · exact hv.2.2.2)
    rw [← h1] at h2
    rw [patOf_ok h2 rfl] at h
    cases h
  · refine .inl ?_
    rw [txQ_not hv, Lib.toList_data]
    rfl
end Go.Proofs.YtnibknaemgpjdaaDoor
