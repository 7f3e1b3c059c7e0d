/- ParseInts, of the program and of the reference; the laws' marks on slices of ints. -/
import Derived.Test.YtnibknaemgpjdaaDoorParS
import Derived.Test.YtnibknaemgpjdaaDoorSplT
import Derived.Test.YtnibknaemgpjdaaDoorInts
namespace Go.Proofs.YtnibknaemgpjdaaDoor
open Go Go.RowKit Go.Sort
open Go.Lib (decDigits itoa)

/-- The slice value v owns the ints xs: they lie at the head of a block from B on, not frozen. -/
def OwnInts (w : World) (B : Nat) (v : Value) (xs : List Int) : Prop :=
  ∃ (a : Option Addr) (cap : Nat), v = .slice a xs.length cap ∧ xs.length ≤ cap ∧ (0 < xs.length → ∃ g, a = some ⟨g, 0, none⟩ ∧ B ≤ g ∧ g < w.heap.size ∧
    ∀ i, i < xs.length → w.cell? ⟨g, i, none⟩ = some (.int .i64 (xs[i]?.getD 0)) ∧ w.frozen? ⟨g, i, none⟩ = false)
theorem OwnInts.keep {w w' : World} {B : Nat} {v : Value} {xs : List Int} (h : OwnInts w B v xs) (hb : Below w.heap.size w w') : OwnInts w' B v xs := by
  obtain ⟨a, cap, rfl, hcap, hc⟩ := h
  refine ⟨a, cap, rfl, hcap, fun h0 => ?_⟩
  obtain ⟨g, rfl, hB, hlt, hcell⟩ := hc h0
  exact ⟨g, rfl, hB, Nat.lt_of_lt_of_le hlt hb.size, fun i hi => ⟨(hb.cell (p := ⟨g, i, none⟩) hlt).trans (hcell i hi).1, (hb.frozen (p := ⟨g, i, none⟩) hlt).trans (hcell i hi).2⟩⟩
theorem OwnInts.intsAt {w : World} {B : Nat} {v : Value} {xs : List Int} (h : OwnInts w B v xs) : IntsAt w v xs := by
  obtain ⟨a, cap, rfl, hcap, hc⟩ := h
  refine ⟨a, cap, rfl, fun h0 => ?_⟩
  obtain ⟨g, rfl, hB, hlt, hcell⟩ := hc h0
  exact ⟨g, 0, rfl, hlt, fun i hi => by rw [Nat.zero_add]; exact (hcell i hi).1⟩
theorem OwnInts.nil (w : World) (B : Nat) : OwnInts w B (.slice none 0 0) [] := ⟨none, 0, rfl, Nat.le_refl _, fun h => by simp at h⟩
theorem OwnInts.none_ (w : World) (B : Nat) (a : Option Addr) (c : Nat) : OwnInts w B (.slice a 0 c) [] := ⟨a, c, rfl, Nat.zero_le _, fun h => by simp at h⟩
theorem ownInts_of_row {w : World} {B : Nat} {e : TypeId} {v : Value} {n : Nat} {xs : List Int} (h : w.ownsRow B e 1 v n (xs.map (Value.int .i64))) : OwnInts w B v xs := by
  have hlen : xs.length = n := by have := h.1; simpa using this
  subst hlen
  rcases h.2 with ⟨rfl, h0⟩ | ⟨g, cap, cur, rfl, hB, hb, h1, h2, h3, h4⟩
  · have : xs = [] := List.eq_nil_of_length_eq_zero h0
    subst this
    exact OwnInts.nil w B
  · refine ⟨_, cap, rfl, h1, fun h0 => ⟨g, rfl, hB, Blk.lt hb, fun i hi => ⟨?_, Blk.frozen hb i⟩⟩⟩
    have e1 : (xs.map (Value.int .i64))[i]? = some (.int .i64 (xs[i]?.getD 0)) := by
      rw [List.getElem?_map, List.getElem?_eq_getElem hi]; rfl
    rw [← h4, Nat.mul_one, List.getElem?_take, if_pos hi] at e1
    rw [cell_of_row w g i cur e (0, 0) hb]
    simpa using e1
/-- As IntsAt, the block below B. -/
def IntsIn (w : World) (B : Nat) (v : Value) (xs : List Int) : Prop :=
  ∃ (a : Option Addr) (cap : Nat), v = .slice a xs.length cap ∧ (0 < xs.length → ∃ b off, a = some ⟨b, off, none⟩ ∧ b < B ∧ ∀ i, i < xs.length → w.cell? ⟨b, off + i, none⟩ = some (.int .i64 (xs[i]?.getD 0)))
theorem IntsAt.in_ {w : World} {v : Value} {xs : List Int} (h : IntsAt w v xs) : IntsIn w w.heap.size v xs := h
theorem IntsIn.keep {w w' : World} {B C : Nat} {v : Value} {xs : List Int} (h : IntsIn w B v xs) (hb : Below C w w') (hC : B ≤ C) : IntsIn w' B v xs := by
  obtain ⟨a, cap, rfl, hc⟩ := h
  refine ⟨a, cap, rfl, fun h0 => ?_⟩
  obtain ⟨b, off, rfl, hlt, hcell⟩ := hc h0
  exact ⟨b, off, rfl, hlt, fun i hi => (hb.cell (p := ⟨b, off + i, none⟩) (Nat.lt_of_lt_of_le hlt hC)).trans (hcell i hi)⟩
theorem IntsIn.at_ {w : World} {B : Nat} {v : Value} {xs : List Int} (h : IntsIn w B v xs) (hB : B ≤ w.heap.size) : IntsAt w v xs := by
  obtain ⟨a, cap, rfl, hc⟩ := h
  refine ⟨a, cap, rfl, fun h0 => ?_⟩
  obtain ⟨b, off, rfl, hlt, hcell⟩ := hc h0
  exact ⟨b, off, rfl, Nat.lt_of_lt_of_le hlt hB, hcell⟩

/-! ### The pieces, none longer than the text -/
theorem extract_le (s : ByteArray) (a b : Nat) : (s.extract a b).size ≤ s.size := by
  rw [size_data, size_data, Lib.extract_data, List.length_take, List.length_drop]; omega
theorem cuts_size (s : ByteArray) (p : UInt8 → Bool) (k : Nat) : ∀ x ∈ (cuts s p k).1, x.size ≤ s.size := by
  induction k with
  | zero => intro x hx; simp [cuts] at hx
  | succ k ih =>
    intro x hx
    rw [cuts] at hx
    split at hx
    · rcases List.mem_append.1 hx with hx | hx
      · exact ih x hx
      · simp only [List.mem_singleton] at hx
        subst hx
        exact extract_le _ _ _
    · exact ih x hx
theorem pieces_size (s : ByteArray) (p : UInt8 → Bool) : ∀ x ∈ pieces s p, x.size ≤ s.size := by
  intro x hx
  unfold pieces at hx
  rcases List.mem_append.1 hx with hx | hx
  · exact cuts_size s p _ x hx
  · simp only [List.mem_singleton] at hx
    subst hx
    exact extract_le _ _ _
theorem piece_at {ss : List ByteArray} {n k : Nat} (h : ∀ x ∈ ss, x.size ≤ n) : (ss[k]?.getD ByteArray.empty).size ≤ n := by
  cases hx : ss[k]? with
  | none => exact Nat.zero_le _
  | some x => exact h x (List.mem_of_getElem? hx)
theorem sepB_one (d : UInt8) : sepB ⟨#[d]⟩ = fun c => c == d := by
  funext c
  unfold sepB
  rw [Bool.eq_iff_iff]
  simp
theorem pieces_split (s : ByteArray) (d : UInt8) : (pieces s (sepB ⟨#[d]⟩)).map (·.data.toList) = splitL (fun c => c == d) s.data.toList := by
  rw [pieces_list, sepB_one]
theorem take_strs {ss : List ByteArray} {k : Nat} (hk : k < ss.length) : (ss.take (k + 1)).map (·.data.toList) = (ss.take k).map (·.data.toList) ++ [(ss[k]?.getD ByteArray.empty).data.toList] := by
  rw [List.take_add_one, List.getElem?_eq_getElem hk, List.map_append]; rfl
theorem allNums_bad {ss : List ByteArray} {k : Nat} (hk : k < ss.length) (h : numOf (ss[k]?.getD ByteArray.empty).data.toList = none) : allNums (ss.map (·.data.toList)) = none := by
  have e : ss.map (·.data.toList) = ((ss.take k).map (·.data.toList) ++ [(ss[k]?.getD ByteArray.empty).data.toList]) ++ (ss.drop (k + 1)).map (·.data.toList) := by
    rw [← take_strs hk, ← List.map_append, List.take_append_drop]
  rw [e]
  refine allNums_none ?_
  rw [allNums_snoc, h]
  cases allNums ((ss.take k).map (·.data.toList)) <;> rfl

def ParRes (s : ByteArray) (w : World) (e : Ending) (w' : World) : Prop :=
  ∃ v, e = .returned (.tuple #[v, .bool (intsOf s.data.toList).isSome]) ∧ OwnInts w' w.heap.size v ((intsOf s.data.toList).getD []) ∧ Below w.heap.size w w'
theorem parRes_some {s : ByteArray} {w w' : World} {v : Value} {xs : List Int} (h : intsOf s.data.toList = some xs) (ho : OwnInts w' w.heap.size v xs) (hb : Below w.heap.size w w') : ParRes s w (.returned (.tuple #[v, .bool true])) w' :=
  ⟨v, by rw [h]; rfl, by rw [h]; exact ho, hb⟩
theorem parRes_none {s : ByteArray} {w w' : World} (h : intsOf s.data.toList = none) (hb : Below w.heap.size w w') : ParRes s w (.returned (.tuple #[.slice none 0 0, .bool false])) w' :=
  ⟨_, by rw [h]; rfl, by rw [h]; exact OwnInts.nil _ _, hb⟩
theorem infoI : (Tryd.prog.info? 3).map (fun i => (i.zero, i.size, i.bytes)) = some (some (.int .i64 0), 1, 8) := by kernel_rfl
set_option maxHeartbeats 2000000 in
theorem parIntsI (s : ByteArray) (hs : s.size ≤ 1048576) (w : World) (hT : Tab w) (hE : Errs w) : Calls Tryd.prog 18 #[.string s] w (ParRes s w) := by
  obtain ⟨i0, hi, hz0, hz1, hz2⟩ := info_parts infoI
  have HT := Lib.hid hT
  have HE := Lib.hid hE
  clear hT hE
  by_cases hm : s.data.toList = [45]
  · have hmt : (s.toList == [45]) = true := by rw [Lib.toList_data, hm]; rfl
    have HN : Hid (intsOf s.data.toList = some []) := by show intsOf s.data.toList = _; unfold intsOf; rw [if_pos hm]
    have hB0 := below1 w (.cells #[] 3)
    clear hm
    go_enter Tryd.func18, Tryd.ntmps18
    go_wp2
    go_ret2
    exact parRes_some HN.out (OwnInts.none_ _ _ _ _) hB0
  have hmt : (s.toList == [45]) = false := by
    rw [Lib.toList_data]
    simpa using hm
  have HI : Hid (intsOf s.data.toList = allNums ((pieces s (sepB ⟨#[44]⟩)).map (·.data.toList))) := by
    show intsOf s.data.toList = _
    rw [pieces_split]
    unfold intsOf
    rw [if_neg hm]
  have hlen := pieces_len s (sepB ⟨#[44]⟩)
  have HZ := Lib.hid (pieces_size s (sepB ⟨#[44]⟩))
  have hown0 : (w.alloc (.cells #[] 3)).ownsRow w.heap.size 3 1 (.slice (some ⟨w.heap.size, 0, none⟩) 0 0) 0 [] := World.ownsRow_made w #[] 0 (Nat.le_refl _) (by decide) rfl
  have HO := Lib.hid hown0
  have hB0 := below1 w (.cells #[] 3)
  clear hm hown0
  go_enter Tryd.func18, Tryd.ntmps18
  go_wp2_with fail
  generalize w.alloc (.cells #[] 3) = W0 at hB0 HO ⊢
  refine (splitI2 s ⟨#[44]⟩ W0 hs).mono ?_
  rintro e w1 ⟨vs, rfl, hs1, hk1, hb⟩
  have HO1 := Lib.hid (own_keep HO.out hb)
  replace hB0 := b_keep hb hB0
  clear hb HO
  obtain ⟨ss, hss⟩ : ∃ ss, pieces s (sepB ⟨#[44]⟩) = ss := ⟨_, rfl⟩
  rw [hss] at hlen HZ hs1 HI
  have hpos := pieces_pos s (sepB ⟨#[44]⟩)
  rw [hss] at hpos
  obtain ⟨a, cap, rfl, hcap, hc⟩ := hs1
  obtain ⟨g, rfl, _, _, hcell0⟩ := hc hpos
  obtain ⟨cur, hblk⟩ := hk1 g rfl
  have HK := Lib.hid hblk
  have HC : Hid (∀ i, i < ss.length → cur[i]? = some (.string (ss[i]?.getD ByteArray.empty))) := Lib.hid (fun i hi => by rw [← hblk.cell i]; exact (hcell0 i hi).1)
  clear hc hss hmt hcap hcell0 hk1 hblk hpos
  go_wp2_with fail
  go_loopw [4, 16] (fun v j wr => ∃ (k : Nat) (xs : List Int), k ≤ ss.length ∧ j = .int .i64 k ∧ allNums ((ss.take k).map (·.data.toList)) = some xs ∧ wr.ownsRow w.heap.size 3 1 v k (xs.map (Value.int .i64)) ∧ Blk wr g 9 cur ∧ Below w.heap.size w wr) (fun _ j _ => ss.length - (intOf j).toNat)
  case atStart => exact ⟨0, [], Nat.zero_le _, rfl, rfl, HO1.out, HK.out, hB0⟩
  case round =>
    obtain ⟨k, xs, hk, rfl, hx, hown, hblk, hB⟩ := hrel
    have HK1 := Lib.hid hblk
    have HX := Lib.hid hx
    have HW := Lib.hid hown
    clear hx hown hblk HO1 hB0 HK
    by_cases hlt : k < ss.length
    · have c1 := (HK1.out.cell k).trans (HC.out k hlt)
      have hps : (ss[k]?.getD ByteArray.empty).size ≤ 1048576 := Nat.le_trans (piece_at HZ.out) hs
      have HT2 := Lib.hid (take_strs hlt)
      have HBad : Hid (numOf (ss[k]?.getD ByteArray.empty).data.toList = none → intsOf s.data.toList = none) := Lib.hid (fun h => HI.out.trans (allNums_bad hlt h))
      have hk0 : (0 : Int) ≤ (k : Int) := by omega
      have hk1 : (k : Int) < (ss.length : Int) := by omega
      generalize ss[k]?.getD ByteArray.empty = p at c1 hps HT2 HBad
      have HP := Lib.hid (parI p hps wr (HT.out.keep hB) (HE.out.keep hB))
      cases hn : numOf p.data.toList with
      | none =>
        have HN := Lib.hid (HBad.out hn)
        have HV := Lib.hid (numV_none hn)
        clear hn
        go_wp2_with fail
        refine HP.out.mono ?_
        rintro e w2 ⟨rfl, hb⟩
        rw [HV.out]
        go_wp2
        go_ret2
        exact parRes_none HN.out (b_keep hb hB)
      | some n =>
        have HV := Lib.hid (numV_some hn)
        have HS : Hid (allNums ((ss.take (k + 1)).map (·.data.toList)) = some (xs ++ [n])) := by
          show allNums _ = _
          rw [HT2.out, allNums_snoc, HX.out, hn]
        clear hn
        go_wp2_with fail
        refine HP.out.mono ?_
        rintro e w2 ⟨rfl, hb⟩
        rw [HV.out]
        have hown2 := own_keep HW.out hb
        have hB2 := b_keep hb hB
        have HK2 := Lib.hid (Blk.keep hb HK1.out)
        have hsz := hB2.size
        clear hb hB
        go_wp2_with (at_builtin; refine wpList_append_own _ rfl _ _ 39 rfl w.heap.size 3 i0 (.int .i64 0) 1 8 Tryd.underlying39 hi hz0 hz1 hz2 rfl (by decide) _ _ _ rfl (hown2.alloc _) ⟨w2.heap.size, 0, none⟩ 1 1 [.int .i64 n] rfl rfl ?c1 ?c2 ?c3 ?c4 ?c5 ?_)
        case c1 => exact news_one
        case c2 => intro u hu; simp at hu; subst hu; rfl
        case c3 => unfold maxLen; omega
        case c4 => omega
        case c5 => simp; omega
        intro v' w3 hown' hgrow _
        have hB3 := below_own (hB2.alloc hsz _) (hown2.alloc _) hgrow (by simp; omega)
        have HK3 := Lib.hid (blk_grown (HK2.out.alloc _) (hown2.alloc _) hgrow (by decide))
        clear hgrow hown2 hB2
        go_wp2
        go_roundw
        case rel => exact ⟨k + 1, _, by omega, by go_num, HS.out, by simpa using hown', HK3.out, hB3⟩
        case measure => simp [intOf]; omega
    · obtain rfl : k = ss.length := by omega
      have hx := HX.out
      rw [List.take_length] at hx
      have HN := Lib.hid (HI.out.trans hx)
      clear hx
      go_wp2
      go_ret2
      exact parRes_some HN.out (ownInts_of_row HW.out) hB
set_option maxHeartbeats 2000000 in
theorem parIntsS (s : ByteArray) (hs : s.size ≤ 1048576) (w : World) : Calls Tryd.prog 45 #[.string s] w (ParRes s w) := by
  obtain ⟨i0, hi, hz0, hz1, hz2⟩ := info_parts infoI
  by_cases hm : s.data.toList = [45]
  · have hmt : (s.toList == [45]) = true := by rw [Lib.toList_data, hm]; rfl
    have HN : Hid (intsOf s.data.toList = some []) := by show intsOf s.data.toList = _; unfold intsOf; rw [if_pos hm]
    have hB0 := below1 w (.cells #[] 3)
    clear hm
    go_enter Tryd.func45, Tryd.ntmps45
    go_wp2
    go_ret2
    exact parRes_some HN.out (OwnInts.none_ _ _ _ _) hB0
  have hmt : (s.toList == [45]) = false := by
    rw [Lib.toList_data]
    simpa using hm
  have HI : Hid (intsOf s.data.toList = allNums ((pieces s (sepB ⟨#[44]⟩)).map (·.data.toList))) := by
    show intsOf s.data.toList = _
    rw [pieces_split]
    unfold intsOf
    rw [if_neg hm]
  have hlen := pieces_len s (sepB ⟨#[44]⟩)
  have HZ := Lib.hid (pieces_size s (sepB ⟨#[44]⟩))
  have hown0 : (w.alloc (.cells #[] 3)).ownsRow w.heap.size 3 1 (.slice (some ⟨w.heap.size, 0, none⟩) 0 0) 0 [] := World.ownsRow_made w #[] 0 (Nat.le_refl _) (by decide) rfl
  have HO := Lib.hid hown0
  have hB0 := below1 w (.cells #[] 3)
  clear hm hown0
  go_enter Tryd.func45, Tryd.ntmps45
  go_wp2_with fail
  generalize w.alloc (.cells #[] 3) = W0 at hB0 HO ⊢
  refine (splitS2 s ⟨#[44]⟩ W0 hs (by decide)).mono ?_
  rintro e w1 ⟨vs, rfl, hs1, hk1, hb⟩
  have HO1 := Lib.hid (own_keep HO.out hb)
  replace hB0 := b_keep hb hB0
  clear hb HO
  obtain ⟨ss, hss⟩ : ∃ ss, pieces s (sepB ⟨#[44]⟩) = ss := ⟨_, rfl⟩
  rw [hss] at hlen HZ hs1 HI
  have hpos := pieces_pos s (sepB ⟨#[44]⟩)
  rw [hss] at hpos
  obtain ⟨a, cap, rfl, hcap, hc⟩ := hs1
  obtain ⟨g, rfl, _, _, hcell0⟩ := hc hpos
  obtain ⟨cur, hblk⟩ := hk1 g rfl
  have HK := Lib.hid hblk
  have HC : Hid (∀ i, i < ss.length → cur[i]? = some (.string (ss[i]?.getD ByteArray.empty))) := Lib.hid (fun i hi => by rw [← hblk.cell i]; exact (hcell0 i hi).1)
  clear hc hss hmt hcap hcell0 hk1 hblk hpos
  go_wp2_with fail
  go_loopw [4, 16] (fun v j wr => ∃ (k : Nat) (xs : List Int), k ≤ ss.length ∧ j = .int .i64 k ∧ allNums ((ss.take k).map (·.data.toList)) = some xs ∧ wr.ownsRow w.heap.size 3 1 v k (xs.map (Value.int .i64)) ∧ Blk wr g 9 cur ∧ Below w.heap.size w wr) (fun _ j _ => ss.length - (intOf j).toNat)
  case atStart => exact ⟨0, [], Nat.zero_le _, rfl, rfl, HO1.out, HK.out, hB0⟩
  case round =>
    obtain ⟨k, xs, hk, rfl, hx, hown, hblk, hB⟩ := hrel
    have HK1 := Lib.hid hblk
    have HX := Lib.hid hx
    have HW := Lib.hid hown
    clear hx hown hblk HO1 hB0 HK
    by_cases hlt : k < ss.length
    · have c1 := (HK1.out.cell k).trans (HC.out k hlt)
      have hps : (ss[k]?.getD ByteArray.empty).size ≤ 1048576 := Nat.le_trans (piece_at HZ.out) hs
      have HT2 := Lib.hid (take_strs hlt)
      have HBad : Hid (numOf (ss[k]?.getD ByteArray.empty).data.toList = none → intsOf s.data.toList = none) := Lib.hid (fun h => HI.out.trans (allNums_bad hlt h))
      have hk0 : (0 : Int) ≤ (k : Int) := by omega
      have hk1 : (k : Int) < (ss.length : Int) := by omega
      generalize ss[k]?.getD ByteArray.empty = p at c1 hps HT2 HBad
      have HP := Lib.hid (parS p hps wr)
      cases hn : numOf p.data.toList with
      | none =>
        have HN := Lib.hid (HBad.out hn)
        have HV := Lib.hid (numV_none hn)
        clear hn
        go_wp2_with fail
        refine HP.out.mono ?_
        rintro e w2 ⟨rfl, hb⟩
        rw [HV.out]
        go_wp2
        go_ret2
        exact parRes_none HN.out (b_keep hb hB)
      | some n =>
        have HV := Lib.hid (numV_some hn)
        have HS : Hid (allNums ((ss.take (k + 1)).map (·.data.toList)) = some (xs ++ [n])) := by
          show allNums _ = _
          rw [HT2.out, allNums_snoc, HX.out, hn]
        clear hn
        go_wp2_with fail
        refine HP.out.mono ?_
        rintro e w2 ⟨rfl, hb⟩
        rw [HV.out]
        have hown2 := own_keep HW.out hb
        have hB2 := b_keep hb hB
        have HK2 := Lib.hid (Blk.keep hb HK1.out)
        have hsz := hB2.size
        clear hb hB
        go_wp2_with (at_builtin; refine wpList_append_own _ rfl _ _ 39 rfl w.heap.size 3 i0 (.int .i64 0) 1 8 Tryd.underlying39 hi hz0 hz1 hz2 rfl (by decide) _ _ _ rfl (hown2.alloc _) ⟨w2.heap.size, 0, none⟩ 1 1 [.int .i64 n] rfl rfl ?c1 ?c2 ?c3 ?c4 ?c5 ?_)
        case c1 => exact news_one
        case c2 => intro u hu; simp at hu; subst hu; rfl
        case c3 => unfold maxLen; omega
        case c4 => omega
        case c5 => simp; omega
        intro v' w3 hown' hgrow _
        have hB3 := below_own (hB2.alloc hsz _) (hown2.alloc _) hgrow (by simp; omega)
        have HK3 := Lib.hid (blk_grown (HK2.out.alloc _) (hown2.alloc _) hgrow (by decide))
        clear hgrow hown2 hB2
        go_wp2
        go_roundw
        case rel => exact ⟨k + 1, _, by omega, by go_num, HS.out, by simpa using hown', HK3.out, hB3⟩
        case measure => simp [intOf]; omega
    · obtain rfl : k = ss.length := by omega
      have hx := HX.out
      rw [List.take_length] at hx
      have HN := Lib.hid (HI.out.trans hx)
      clear hx
      go_wp2
      go_ret2
      exact parRes_some HN.out (ownInts_of_row HW.out) hB
end Go.Proofs.YtnibknaemgpjdaaDoor
