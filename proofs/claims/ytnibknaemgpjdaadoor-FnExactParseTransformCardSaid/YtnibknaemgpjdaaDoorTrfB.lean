/- The text of a transform: what is read is what was written. No program in sight but for values. -/
import Derived.Test.YtnibknaemgpjdaaDoorPatP
import Derived.Lib.IndexMore
namespace Go.Proofs.YtnibknaemgpjdaaDoor
open Go Go.RowKit Go.Sort

/-- Number i of a list; nought beyond the end. -/
def mAt (ms : List Int) (i : Nat) : Int := ms[i]?.getD 0
/-- The twelve numbers of a transform. -/
def cellsT (ms : List Int) (v : V3) : Array Value := #[.int .i64 (mAt ms 0), .int .i64 (mAt ms 1), .int .i64 (mAt ms 2), .int .i64 (mAt ms 3), .int .i64 (mAt ms 4), .int .i64 (mAt ms 5), .int .i64 (mAt ms 6), .int .i64 (mAt ms 7), .int .i64 (mAt ms 8), .int .i64 v.1, .int .i64 v.2.1, .int .i64 v.2.2]
theorem cellsT_nil : cellsT [] (0, 0, 0) = #[.int .i64 (0), .int .i64 (0), .int .i64 (0), .int .i64 (0), .int .i64 (0), .int .i64 (0), .int .i64 (0), .int .i64 (0), .int .i64 (0), .int .i64 (0), .int .i64 (0), .int .i64 (0)] := rfl
theorem cellsT_nilV (v : V3) : cellsT [] v = #[.int .i64 0, .int .i64 0, .int .i64 0, .int .i64 0, .int .i64 0, .int .i64 0, .int .i64 0, .int .i64 0, .int .i64 0, .int .i64 v.1, .int .i64 v.2.1, .int .i64 v.2.2] := rfl
theorem cellsT_size (ms : List Int) (v : V3) : (cellsT ms v).size = 12 := rfl
theorem cellsT_snoc {ms : List Int} (x : Int) {k : Nat} (hk : ms.length = k) (h9 : k < 9) (v : V3) : (cellsT ms v).setIfInBounds k (.int .i64 x) = cellsT (ms ++ [x]) v := by
  subst hk
  match ms, h9 with
  | [], _ => rfl
  | [_], _ => rfl
  | [_, _], _ => rfl
  | [_, _, _], _ => rfl
  | [_, _, _, _], _ => rfl
  | [_, _, _, _, _], _ => rfl
  | [_, _, _, _, _, _], _ => rfl
  | [_, _, _, _, _, _, _], _ => rfl
  | [_, _, _, _, _, _, _, _], _ => rfl
theorem cellsT_more {ms : List Int} (x : Int) {k : Nat} (hk : ms.length = k) (h9 : ¬ k < 9) (v : V3) : cellsT (ms ++ [x]) v = cellsT ms v := by
  have e : ∀ i, i < 9 → mAt (ms ++ [x]) i = mAt ms i := fun i hi => by unfold mAt; rw [List.getElem?_append_left (by omega)]
  unfold cellsT
  rw [e 0 (by omega), e 1 (by omega), e 2 (by omega), e 3 (by omega), e 4 (by omega), e 5 (by omega), e 6 (by omega), e 7 (by omega), e 8 (by omega)]
theorem cellsT_some {ms : List Int} {v : V3} {j : Nat} (h : j < 12) : ∃ n : Int, (cellsT ms v)[j]? = some (.int .i64 n) := by
  have : j = 0 ∨ j = 1 ∨ j = 2 ∨ j = 3 ∨ j = 4 ∨ j = 5 ∨ j = 6 ∨ j = 7 ∨ j = 8 ∨ j = 9 ∨ j = 10 ∨ j = 11 := by omega
  rcases this with rfl | rfl | rfl | rfl | rfl | rfl | rfl | rfl | rfl | rfl | rfl | rfl <;> exact ⟨_, rfl⟩
theorem nine_of {ms : List Int} (h : ms.length = 9) : ms = [mAt ms 0, mAt ms 1, mAt ms 2, mAt ms 3, mAt ms 4, mAt ms 5, mAt ms 6, mAt ms 7, mAt ms 8] := by
  match ms, h with
  | [_, _, _, _, _, _, _, _, _], _ => rfl
def vbR (ms : List Int) (v : V3) : Bool := vbT (mAt ms 0) (mAt ms 1) (mAt ms 2) (mAt ms 3) (mAt ms 4) (mAt ms 5) (mAt ms 6) (mAt ms 7) (mAt ms 8) v.1 v.2.1 v.2.2
/-- The text of a transform. -/
def txR (ms : List Int) (v : V3) : ByteArray := txT (mAt ms 0) (mAt ms 1) (mAt ms 2) (mAt ms 3) (mAt ms 4) (mAt ms 5) (mAt ms 6) (mAt ms 7) (mAt ms 8) v.1 v.2.1 v.2.2
/-- The transform whose text it is. -/
def trOf (l : List UInt8) : Option (List Int × V3) :=
  match intsOf (Lib.cut l [59]).1, vecOf (Lib.cut l [59]).2.1 with
  | some ms, some v => if ms.length = 9 then (if vbR ms v = true then some (ms, v) else none) else none
  | _, _ => none
def trV (l : List UInt8) : Value := match trOf l with
  | some (ms, v) => .tuple #[.agg (cellsT ms v), .bool true]
  | none => .tuple #[.agg (cellsT [] (0, 0, 0)), .bool false]
theorem trV_some {l : List UInt8} {ms : List Int} {v : V3} (h : trOf l = some (ms, v)) : trV l = .tuple #[.agg (cellsT ms v), .bool true] := by unfold trV; rw [h]
theorem trV_none {l : List UInt8} (h : trOf l = none) : trV l = .tuple #[.agg (cellsT [] (0, 0, 0)), .bool false] := by unfold trV; rw [h]
theorem trOf_ints {l : List UInt8} (h : intsOf (Lib.cut l [59]).1 = none) : trOf l = none := by unfold trOf; rw [h]
theorem trOf_vec {l : List UInt8} (h : vecOf (Lib.cut l [59]).2.1 = none) : trOf l = none := by unfold trOf; rw [h]; cases intsOf (Lib.cut l [59]).1 <;> rfl
theorem trOf_both {l : List UInt8} {ms : List Int} {v : V3} (h1 : intsOf (Lib.cut l [59]).1 = some ms) (h2 : vecOf (Lib.cut l [59]).2.1 = some v) : trOf l = if ms.length = 9 then (if vbR ms v = true then some (ms, v) else none) else none := by
  unfold trOf; rw [h1, h2]
theorem trOf_parts {l : List UInt8} {ms : List Int} {v : V3} (h : trOf l = some (ms, v)) : intsOf (Lib.cut l [59]).1 = some ms ∧ vecOf (Lib.cut l [59]).2.1 = some v ∧ ms.length = 9 ∧ vbR ms v = true := by
  cases h1 : intsOf (Lib.cut l [59]).1 with
  | none => rw [trOf_ints h1] at h; cases h
  | some ms' =>
    cases h2 : vecOf (Lib.cut l [59]).2.1 with
    | none => rw [trOf_vec h2] at h; cases h
    | some v' =>
      rw [trOf_both h1 h2] at h
      split at h
      · rename_i hl
        split at h
        · rename_i hb
          obtain ⟨rfl, rfl⟩ : ms' = ms ∧ v' = v := by
            have := Option.some.inj h
            exact ⟨congrArg Prod.fst this, congrArg Prod.snd this⟩
          exact ⟨rfl, rfl, hl, hb⟩
        · cases h
      · cases h

/-! ### The cut -/
theorem index_at {y : List UInt8} : ∀ {x : List UInt8}, (∀ c ∈ x, (c == 59) = false) → Lib.index (x ++ 59 :: y) [59] = x.length
  | [], _ => by
    show Lib.index (59 :: y) [59] = 0
    unfold Lib.index
    simp
  | b :: x, h => by
    have hb := h b (by simp)
    have ih := index_at (y := y) (x := x) (fun c hc => h c (by simp [hc]))
    rw [List.cons_append]
    unfold Lib.index
    rw [ih]
    have e : List.isPrefixOf [59] (b :: (x ++ 59 :: y)) = false := by
      have : ((59 : UInt8) == b) = false := by
        simp only [beq_eq_false_iff_ne, ne_eq] at hb ⊢
        exact fun e => hb e.symm
      simp [List.isPrefixOf, this]
    rw [e]
    have e2 : (((x.length : Nat) : Int) == -1) = false := by
      simp only [beq_eq_false_iff_ne, ne_eq]; omega
    rw [e2]
    simp
theorem cut_at {x y : List UInt8} (h : ∀ c ∈ x, (c == 59) = false) : Lib.cut (x ++ 59 :: y) [59] = (x, y, true) := by
  unfold Lib.cut
  rw [index_at h, if_pos (by omega)]
  have e : x ++ 59 :: y = (x ++ [59]) ++ y := by simp
  simp only [Int.toNat_natCast, List.take_left', List.length_cons, List.length_nil]
  rw [e, List.drop_left' (by simp)]
theorem cut_parts (l : List UInt8) : l = (Lib.cut l [59]).1 ++ 59 :: (Lib.cut l [59]).2.1 ∨ (Lib.cut l [59]).2.1 = [] := by
  unfold Lib.cut
  rcases Lib.index_spec l [59] with ⟨h1, _⟩ | ⟨i, h1, h2, h3, _⟩
  · right
    rw [h1]; rfl
  · left
    rw [h1, if_pos (by omega)]
    unfold Lib.occAt at h3
    have e : l.drop i = 59 :: l.drop (i + 1) := by
      cases hd : l.drop i with
      | nil => rw [hd] at h3; simp at h3
      | cons c r =>
        rw [hd] at h3
        have hc : (59 : UInt8) = c := by simpa [List.isPrefixOf] using h3
        have : l.drop (i + 1) = r := by rw [← List.drop_drop, hd]; rfl
        rw [← hc, this]
    show l = l.take ((i : Int)).toNat ++ 59 :: l.drop (((i : Int)).toNat + 1)
    rw [Int.toNat_natCast, ← e, List.take_append_drop]
theorem no59 {l : List UInt8} (h : ∀ c ∈ l, c = 44 ∨ c = 45 ∨ isDig c) : ∀ c ∈ l, (c == 59) = false := fun c hc => tidy_ne (h c hc) (by decide) (by decide) (by decide)
theorem vecOf_nil : vecOf [] = none := by first | rfl | decide | kernel_rfl
theorem txR_valid {ms : List Int} {v : V3} (h : vbR ms v = true) : (txR ms v).data.toList = fmtInts [mAt ms 0, mAt ms 1, mAt ms 2, mAt ms 3, mAt ms 4, mAt ms 5, mAt ms 6, mAt ms 7, mAt ms 8] ++ 59 :: fmtV v.1 v.2.1 v.2.2 := by
  unfold vbR at h
  unfold txR txT
  rw [if_pos h]
  unfold txI txV
  simp
theorem txR_not {ms : List Int} {v : V3} (h : ¬ vbR ms v = true) : txR ms v = ⟨#[]⟩ := by
  unfold vbR at h
  unfold txR txT
  rw [if_neg h]
theorem tr_yes {s : ByteArray} {ms : List Int} {v : V3} (h : trOf s.data.toList = some (ms, v)) :
    splitL (fun c => c == 59) s.data.toList = [fmtInts ms, fmtV v.1 v.2.1 v.2.2] ∧ intsOf (fmtInts ms) = some ms ∧ vecOf (fmtV v.1 v.2.1 v.2.2) = some v ∧ txR ms v = s ∧ s.toList.isEmpty = false := by
  obtain ⟨h1, h2, h3, h4⟩ := trOf_parts h
  obtain ⟨e1, e2⟩ := fmt_intsOf h1
  obtain ⟨x, y, z⟩ := v
  obtain ⟨e3, e4⟩ := fmt_vecOf h2
  have hs : s.data.toList = fmtInts ms ++ 59 :: fmtV x y z := by
    rcases cut_parts s.data.toList with hc | hc
    · rw [e1, e4]; exact hc
    · rw [hc, vecOf_nil] at h2; cases h2
  refine ⟨?_, intsOf_fmt e2, vecOf_fmt e3, bytes_ext ?_, ?_⟩
  · rw [hs]
    have e : fmtInts ms ++ 59 :: fmtV x y z = joinL [59] [fmtInts ms, fmtV x y z] := rfl
    rw [e]
    exact split_join (by decide) (by simp) (fun w hw c hc => by
      simp only [List.mem_cons, List.not_mem_nil, or_false] at hw
      rcases hw with rfl | rfl
      · exact no59 (fun c hc => fmtInts_bytes c hc) c hc
      · exact no59 (fun c hc => fmtV_bytes c hc) c hc)
  · rw [txR_valid h4, ← nine_of h3, hs]
  · rw [Lib.toList_data, hs]
    cases hq : fmtInts ms ++ 59 :: fmtV x y z with
    | nil => simp at hq
    | cons c l => rfl
theorem tr_no {s : ByteArray} (h : trOf s.data.toList = none) (ms : List Int) (v : V3) : (txR ms v).toList.isEmpty = true ∨ ((txR ms v).toList == s.toList) = false := by
  by_cases hv : vbR ms v = true
  · refine .inr ?_
    rw [Lib.toList_data, Lib.toList_data, txR_valid hv]
    simp only [beq_eq_false_iff_ne, ne_eq]
    intro e
    have hc := cut_at (x := fmtInts [mAt ms 0, mAt ms 1, mAt ms 2, mAt ms 3, mAt ms 4, mAt ms 5, mAt ms 6, mAt ms 7, mAt ms 8]) (y := fmtV v.1 v.2.1 v.2.2) (no59 (fun c hc => fmtInts_bytes c hc))
    rw [e] at hc
    have hb := hv
    unfold vbR vbT at hb
    have hb2 : okM [mAt ms 0, mAt ms 1, mAt ms 2, mAt ms 3, mAt ms 4, mAt ms 5, mAt ms 6, mAt ms 7, mAt ms 8] = true ∧ vb v.1 v.2.1 v.2.2 = true := by simpa using hb
    have h1 : intsOf (Lib.cut s.data.toList [59]).1 = some [mAt ms 0, mAt ms 1, mAt ms 2, mAt ms 3, mAt ms 4, mAt ms 5, mAt ms 6, mAt ms 7, mAt ms 8] := by rw [hc]; exact intsOf_fmt (okM_in hb2.1)
    have h2 : vecOf (Lib.cut s.data.toList [59]).2.1 = some v := by rw [hc]; exact vecOf_fmt hb2.2
    have h3 : vbR [mAt ms 0, mAt ms 1, mAt ms 2, mAt ms 3, mAt ms 4, mAt ms 5, mAt ms 6, mAt ms 7, mAt ms 8] v = true := hv
    rw [trOf_both h1 h2, if_pos (show ([mAt ms 0, mAt ms 1, mAt ms 2, mAt ms 3, mAt ms 4, mAt ms 5, mAt ms 6, mAt ms 7, mAt ms 8] : List Int).length = 9 from rfl), if_pos h3] at h
    cases h
  · refine .inl ?_
    rw [txR_not hv, Lib.toList_data]
    rfl
end Go.Proofs.YtnibknaemgpjdaaDoor
