/- ParseVec, of the program and of the reference. -/
import Derived.Test.YtnibknaemgpjdaaDoorParL
import Derived.Test.YtnibknaemgpjdaaDoorFmtV
import Derived.Deep.RegionHeld3
namespace Go.Proofs.YtnibknaemgpjdaaDoor
open Go Go.RowKit Go.Sort
open Go.Lib (decDigits itoa)

/-- The vector whose text it is. -/
def vecOf (l : List UInt8) : Option (Int × Int × Int) :=
  match intsOf l with
  | some [x, y, z] => if vb x y z then some (x, y, z) else none
  | _ => none
/-- What ParseVec answers. -/
def vecV (l : List UInt8) : Value :=
  match vecOf l with
  | some (x, y, z) => .tuple #[.agg #[.int .i64 (x), .int .i64 (y), .int .i64 (z)], .bool true]
  | none => .tuple #[.agg #[.int .i64 (0), .int .i64 (0), .int .i64 (0)], .bool false]
theorem vecV_some {l : List UInt8} {x y z : Int} (h : vecOf l = some (x, y, z)) : vecV l = .tuple #[.agg #[.int .i64 (x), .int .i64 (y), .int .i64 (z)], .bool true] := by unfold vecV; rw [h]
theorem vecV_none {l : List UInt8} (h : vecOf l = none) : vecV l = .tuple #[.agg #[.int .i64 (0), .int .i64 (0), .int .i64 (0)], .bool false] := by unfold vecV; rw [h]
theorem vecOf_three {l : List UInt8} {x y z : Int} (h : intsOf l = some [x, y, z]) : vecOf l = if vb x y z then some (x, y, z) else none := by unfold vecOf; rw [h]
theorem vecOf_fail {l : List UInt8} (h : intsOf l = none) : vecOf l = none := by unfold vecOf; rw [h]
theorem vecOf_len {l : List UInt8} {xs : List Int} (h : intsOf l = some xs) (hl : xs.length ≠ 3) : vecOf l = none := by
  unfold vecOf
  rw [h]
  match xs, hl with
  | [], _ => rfl
  | [_], _ => rfl
  | [_, _], _ => rfl
  | [_, _, _], h => exact absurd rfl h
  | _ :: _ :: _ :: _ :: _, _ => rfl
theorem three_of {xs : List Int} (h : xs.length = 3) : ∃ x y z, xs = [x, y, z] := by
  match xs, h with
  | [x, y, z], _ => exact ⟨x, y, z, rfl⟩
theorem intsOf_ne {l : List UInt8} {xs : List Int} (h : intsOf l = some xs) : l ≠ [] := by
  rintro rfl
  unfold intsOf at h
  rw [if_neg (by simp)] at h
  have h2 : allNums (splitL (fun c => c == 44) []) = none := by
    simp [splitL, allNums, numOf_nil]
  rw [h2] at h
  cases h
theorem fmtV_read {l : List UInt8} {x y z : Int} (h : intsOf l = some [x, y, z]) : (fmtV x y z = l) = (vb x y z = true) := by
  have h1 := (fmt_intsOf h).1
  have h2 := intsOf_ne h
  unfold fmtV
  cases hv : vb x y z with
  | true => rw [if_pos rfl, h1]; simp
  | false =>
    rw [if_neg (by simp)]
    exact propext ⟨fun e => absurd e.symm h2, fun e => by cases e⟩
/-- What is read is what was written. -/
theorem vecOf_fmt {x y z : Int} (h : vb x y z = true) : vecOf (fmtV x y z) = some (x, y, z) := by
  have h1 : fmtV x y z = fmtInts [x, y, z] := by unfold fmtV; rw [if_pos h]
  rw [h1, vecOf_three (intsOf_fmt (vb_in h)), if_pos h]
theorem fmt_vecOf {l : List UInt8} {x y z : Int} (h : vecOf l = some (x, y, z)) : vb x y z = true ∧ fmtV x y z = l := by
  unfold vecOf at h
  split at h
  · rename_i a b c he
    split at h
    · rename_i hv
      obtain ⟨rfl, rfl, rfl⟩ : a = x ∧ b = y ∧ c = z := by simpa using h
      exact ⟨hv, by rw [fmtV_read he]; exact hv⟩
    · cases h
  · cases h
/-- Three ints at the head of a block that is there. -/
def I3 (w : World) (g : Nat) (x y z : Int) : Prop := g < w.heap.size ∧ w.cell? ⟨g, 0, none⟩ = some (.int .i64 x) ∧ w.cell? ⟨g, 1, none⟩ = some (.int .i64 y) ∧ w.cell? ⟨g, 2, none⟩ = some (.int .i64 z)
section
variable {w w1 W : World} {g : Nat} {x y z : Int}
theorem I3.cells (h : I3 w g x y z) : w.cell? ⟨g, 0, none⟩ = some (.int .i64 x) ∧ w.cell? ⟨g, 1, none⟩ = some (.int .i64 y) ∧ w.cell? ⟨g, 2, none⟩ = some (.int .i64 z) := h.2
theorem I3.drew (h : I3 w g x y z) : I3 w.drew g x y z := h
theorem I3.keep (h : I3 W g x y z) (hb : Below W.heap.size W w1) : I3 w1 g x y z :=
  ⟨Nat.lt_of_lt_of_le h.1 hb.size, (hb.cell (p := ⟨g, 0, none⟩) h.1).trans h.2.1, (hb.cell (p := ⟨g, 1, none⟩) h.1).trans h.2.2.1, (hb.cell (p := ⟨g, 2, none⟩) h.1).trans h.2.2.2⟩
theorem I3.alloc (h : I3 w g x y z) (o : Obj) : I3 (w.alloc o) g x y z := h.keep (below1 w o)
end
def VecPRes (s : ByteArray) (w : World) (e : Ending) (w' : World) : Prop := e = .returned (vecV s.data.toList) ∧ Below w.heap.size w w'
theorem vecP_mk {s : ByteArray} {w w' : World} {v : Value} (h : vecV s.data.toList = v) (hb : Below w.heap.size w w') : VecPRes s w (.returned v) w' := ⟨by rw [h], hb⟩
set_option maxHeartbeats 2000000 in
set_option maxRecDepth 100000 in
theorem parVecI (s : ByteArray) (hs : s.size ≤ 1048576) (w : World) (hT : Tab w) (hE : Errs w) : Calls Tryd.prog 26 #[.string s] w (VecPRes s w) := by
  have hB0 := below1 w (.cells #[.int .i64 (0), .int .i64 (0), .int .i64 (0)] 23)
  have b00 := Blk.new w 23 #[.int .i64 (0), .int .i64 (0), .int .i64 (0)]
  have HT := Lib.hid hT
  have HE := Lib.hid hE
  clear hT hE
  go_enter Tryd.func26, Tryd.ntmps26
  go_wp2_with fail
  generalize w.alloc (.cells #[.int .i64 (0), .int .i64 (0), .int .i64 (0)] 23) = W0 at hB0 b00 ⊢
  refine (parIntsI s hs W0 (HT.out.keep hB0) (HE.out.keep hB0)).mono ?_
  rintro e w1 ⟨v, rfl, hown, hb⟩
  have b0 := Blk.keep hb b00
  have hB := b_keep hb hB0
  have hW0 := hB0.size
  have hlt0 := b00.lt
  clear hB0
  cases hi : intsOf s.data.toList with
  | none =>
    rw [hi] at hown
    have HV := Lib.hid (vecV_none (vecOf_fail hi))
    obtain ⟨a, cap, rfl, _, _⟩ := hown
    have c0 := b0.cell
    have f0 := b0.frozen
    have l0 := b0.lt
    clear hi
    simp only [Option.isSome_none, Option.getD_none, List.length_nil]
    go_wp2
    exact bodyPost_ret (v := .tuple #[.agg #[.int .i64 (0), .int .i64 (0), .int .i64 (0)], .bool false]) (by simp [results, Tryd.results26, go_sem, c0]) rfl (vecP_mk HV.out (((hB.setCell (by dsimp only; omega) _).setCell (by dsimp only; omega) _).setCell (by dsimp only; omega) _))
  | some xs =>
    rw [hi] at hown
    by_cases hl : xs.length = 3
    · obtain ⟨x, y, z, rfl⟩ := three_of hl
      obtain ⟨a, cap, rfl, _, hc⟩ := hown
      obtain ⟨g, rfl, hBg, hlg, hcell⟩ := hc (by show 0 < 3; omega)
      have h3 : I3 w1 g x y z := ⟨hlg, (hcell 0 (by show 0 < 3; omega)).1, (hcell 1 (by show 1 < 3; omega)).1, (hcell 2 (by show 2 < 3; omega)).1⟩
      have HR := Lib.hid (fmtV_read hi)
      have HV := Lib.hid (vecOf_three hi)
      clear hi hc hcell hl b00 hb
      simp only [Option.isSome_some, Option.getD_some, List.length_cons, List.length_nil]
      go_wp2_with fail
      go_region_held3 (fun w' => w'.cell? ⟨g, 0, none⟩ = some (.int .i64 x) ∧ w'.cell? ⟨g, 1, none⟩ = some (.int .i64 y) ∧ w'.cell? ⟨g, 2, none⟩ = some (.int .i64 z))
        (first | with_reducible exact h3.cells | with_reducible exact h3.drew.cells | with_reducible exact (h3.alloc _).cells | with_reducible exact (h3.drew.alloc _).cells | with_reducible exact (h3.alloc _).drew.cells)
        (fail)
      have b2 := (b0.alloc (.cells #[.int .i64 (x), .int .i64 (y), .int .i64 (z)] 23)).drew
      have b1 := (Blk.new w1 23 #[.int .i64 (x), .int .i64 (y), .int .i64 (z)]).drew
      have hB1 := (hB.alloc hB.size (.cells #[.int .i64 (x), .int .i64 (y), .int .i64 (z)] 23)).drew
      have hlt1 : w.heap.size < w1.heap.size := b0.lt
      obtain ⟨q, hq⟩ : ∃ q, w1.heap.size = q := ⟨_, rfl⟩
      rw [hq] at b1 hlt1 ⊢
      have HQ := Lib.hid hq
      clear hq h3 b0 hlg
      generalize (w1.alloc (.cells #[.int .i64 (x), .int .i64 (y), .int .i64 (z)] 23)).drew = W2 at b1 b2 hB1 ⊢
      have c1 := b1.cell
      have f1 := b1.frozen
      have l1 := b1.lt
      have c2 := b2.cell
      have f2 := b2.frozen
      have l2 := b2.lt
      have hne : Hid (w.heap.size ≠ q) := Lib.hid (by omega)
      cases hv : vb x y z with
      | false =>
        have HN := Lib.hid (vecV_none (by rw [HV.out, hv]; rfl))
        have HC := Lib.hid (isValidVecI x y z W2)
        rw [hv] at HC
        clear hv
        go_wp2_with fail
        refine HC.out.mono ?_
        rintro e w3 ⟨rfl, hb⟩
        have b3 : Blk w3 _ _ _ := Blk.keep hb b2
        have b4 : Blk w3 _ _ _ := Blk.keep hb b1
        have hB2 := b_keep hb hB1
        replace c2 := b3.cell
        replace f2 := b3.frozen
        replace l2 := b3.lt
        replace c1 := b4.cell
        replace f1 := b4.frozen
        replace l1 := b4.lt
        clear hb b1 b2 b3 b4 hB1
        go_wp2
        exact bodyPost_ret (v := .tuple #[.agg #[.int .i64 (0), .int .i64 (0), .int .i64 (0)], .bool false]) (by simp [results, Tryd.results26, go_sem, c2]) rfl (vecP_mk HN.out (((hB2.setCell (by dsimp only; omega) _).setCell (by dsimp only; omega) _).setCell (by dsimp only; omega) _))
      | true =>
        have HN := Lib.hid (vecV_some (by rw [HV.out, hv]; rfl))
        have HC := Lib.hid (isValidVecI x y z W2)
        rw [hv] at HC
        clear hv
        go_wp2_with fail
        refine HC.out.mono ?_
        rintro e w3 ⟨rfl, hb⟩
        have b3 : Blk w3 _ _ _ := Blk.keep hb b2
        have b4 : Blk w3 _ _ _ := Blk.keep hb b1
        have hB2 := b_keep hb hB1
        replace c2 := b3.cell
        replace f2 := b3.frozen
        replace l2 := b3.lt
        replace c1 := b4.cell
        replace f1 := b4.frozen
        replace l1 := b4.lt
        clear hb b1 b2 b3 b4 hB1
        go_wp2
        exact bodyPost_ret (v := .tuple #[.agg #[.int .i64 (x), .int .i64 (y), .int .i64 (z)], .bool true]) (by simp [results, Tryd.results26, go_sem, c2]) rfl (vecP_mk HN.out (((hB2.setCell (by dsimp only; omega) _).setCell (by dsimp only; omega) _).setCell (by dsimp only; omega) _))
    · have HV := Lib.hid (vecV_none (vecOf_len hi hl))
      obtain ⟨a, cap, rfl, _, _⟩ := hown
      have c0 := b0.cell
      have f0 := b0.frozen
      have l0 := b0.lt
      have hl1 : ((xs.length : Int) == 3) = false := by
        simp only [beq_eq_false_iff_ne, ne_eq]; omega
      have hl2 : ((xs.length : Int) != 3) = true := by
        simp only [bne_iff_ne, ne_eq]; omega
      clear hi hl
      simp only [Option.isSome_some, Option.getD_some]
      go_wp2
      exact bodyPost_ret (v := .tuple #[.agg #[.int .i64 (0), .int .i64 (0), .int .i64 (0)], .bool false]) (by simp [results, Tryd.results26, go_sem, c0]) rfl (vecP_mk HV.out (((hB.setCell (by dsimp only; omega) _).setCell (by dsimp only; omega) _).setCell (by dsimp only; omega) _))
set_option maxHeartbeats 2000000 in
set_option maxRecDepth 100000 in
theorem parVecS (s : ByteArray) (hs : s.size ≤ 1048576) (w : World) : Calls Tryd.prog 42 #[.string s] w (VecPRes s w) := by
  have hB0 := below1 w (.cells #[.int .i64 (0), .int .i64 (0), .int .i64 (0)] 23)
  have b00 := Blk.new w 23 #[.int .i64 (0), .int .i64 (0), .int .i64 (0)]
  go_enter Tryd.func42, Tryd.ntmps42
  go_wp2_with fail
  generalize w.alloc (.cells #[.int .i64 (0), .int .i64 (0), .int .i64 (0)] 23) = W0 at hB0 b00 ⊢
  refine (parIntsS s hs W0).mono ?_
  rintro e w1 ⟨v, rfl, hown, hb⟩
  have b0 := Blk.keep hb b00
  have hB := b_keep hb hB0
  have hW0 := hB0.size
  have hlt0 := b00.lt
  clear hB0
  cases hi : intsOf s.data.toList with
  | none =>
    rw [hi] at hown
    have HV := Lib.hid (vecV_none (vecOf_fail hi))
    obtain ⟨a, cap, rfl, _, _⟩ := hown
    have c0 := b0.cell
    have f0 := b0.frozen
    have l0 := b0.lt
    clear hi
    simp only [Option.isSome_none, Option.getD_none, List.length_nil]
    go_wp2
    exact bodyPost_ret (v := .tuple #[.agg #[.int .i64 (0), .int .i64 (0), .int .i64 (0)], .bool false]) (by simp [results, Tryd.results42, go_sem, c0]) rfl (vecP_mk HV.out (((hB.setCell (by dsimp only; omega) _).setCell (by dsimp only; omega) _).setCell (by dsimp only; omega) _))
  | some xs =>
    rw [hi] at hown
    by_cases hl : xs.length = 3
    · obtain ⟨x, y, z, rfl⟩ := three_of hl
      obtain ⟨a, cap, rfl, _, hc⟩ := hown
      obtain ⟨g, rfl, hBg, hlg, hcell⟩ := hc (by show 0 < 3; omega)
      have h3 : I3 w1 g x y z := ⟨hlg, (hcell 0 (by show 0 < 3; omega)).1, (hcell 1 (by show 1 < 3; omega)).1, (hcell 2 (by show 2 < 3; omega)).1⟩
      have HR := Lib.hid (fmtV_read hi)
      have HV := Lib.hid (vecOf_three hi)
      clear hi hc hcell hl b00 hb
      simp only [Option.isSome_some, Option.getD_some, List.length_cons, List.length_nil]
      go_wp2_with fail
      go_region_held3 (fun w' => w'.cell? ⟨g, 0, none⟩ = some (.int .i64 x) ∧ w'.cell? ⟨g, 1, none⟩ = some (.int .i64 y) ∧ w'.cell? ⟨g, 2, none⟩ = some (.int .i64 z))
        (first | with_reducible exact h3.cells | with_reducible exact h3.drew.cells | with_reducible exact (h3.alloc _).cells | with_reducible exact (h3.drew.alloc _).cells | with_reducible exact (h3.alloc _).drew.cells)
        (fail)
      have b2 := (b0.alloc (.cells #[.int .i64 (x), .int .i64 (y), .int .i64 (z)] 23)).drew
      have b1 := (Blk.new w1 23 #[.int .i64 (x), .int .i64 (y), .int .i64 (z)]).drew
      have hB1 := (hB.alloc hB.size (.cells #[.int .i64 (x), .int .i64 (y), .int .i64 (z)] 23)).drew
      have hlt1 : w.heap.size < w1.heap.size := b0.lt
      obtain ⟨q, hq⟩ : ∃ q, w1.heap.size = q := ⟨_, rfl⟩
      rw [hq] at b1 hlt1 ⊢
      have HQ := Lib.hid hq
      clear hq h3 b0 hlg
      generalize (w1.alloc (.cells #[.int .i64 (x), .int .i64 (y), .int .i64 (z)] 23)).drew = W2 at b1 b2 hB1 ⊢
      have c1 := b1.cell
      have f1 := b1.frozen
      have l1 := b1.lt
      have c2 := b2.cell
      have f2 := b2.frozen
      have l2 := b2.lt
      have hne : Hid (w.heap.size ≠ q) := Lib.hid (by omega)
      cases hv : vb x y z with
      | false =>
        have HN := Lib.hid (vecV_none (by rw [HV.out, hv]; rfl))
        have HC := Lib.hid (fmtVecS x y z W2)
        have hne2 : ((txV x y z).toList == s.toList) = false := bytes_neq (by
          intro e
          have := HR.out
          rw [hv, e] at this
          simp at this)
        unfold VecRes at HC
        generalize txV x y z = t at HC hne2
        clear hv
        go_wp2_with fail
        refine HC.out.mono ?_
        rintro e w3 ⟨rfl, hb⟩
        have b3 : Blk w3 _ _ _ := Blk.keep hb b2
        have b4 : Blk w3 _ _ _ := Blk.keep hb b1
        have hB2 := b_keep hb hB1
        replace c2 := b3.cell
        replace f2 := b3.frozen
        replace l2 := b3.lt
        replace c1 := b4.cell
        replace f1 := b4.frozen
        replace l1 := b4.lt
        clear hb b1 b2 b3 b4 hB1
        go_wp2
        exact bodyPost_ret (v := .tuple #[.agg #[.int .i64 (0), .int .i64 (0), .int .i64 (0)], .bool false]) (by simp [results, Tryd.results42, go_sem, c2]) rfl (vecP_mk HN.out (((hB2.setCell (by dsimp only; omega) _).setCell (by dsimp only; omega) _).setCell (by dsimp only; omega) _))
      | true =>
        have HN := Lib.hid (vecV_some (by rw [HV.out, hv]; rfl))
        have HC := Lib.hid (fmtVecS x y z W2)
        have he : txV x y z = s := bytes_eq (by rw [HR.out]; exact hv)
        have HC2 : Hid (Calls Tryd.prog 78 #[.agg #[.int .i64 (x), .int .i64 (y), .int .i64 (z)]] W2 fun e w' => e = .returned (.string s) ∧ Below W2.heap.size W2 w') := by
          have := HC.out
          unfold VecRes at this
          rw [he] at this
          exact this
        clear hv he HC
        go_wp2_with fail
        refine HC2.out.mono ?_
        rintro e w3 ⟨rfl, hb⟩
        have b3 : Blk w3 _ _ _ := Blk.keep hb b2
        have b4 : Blk w3 _ _ _ := Blk.keep hb b1
        have hB2 := b_keep hb hB1
        replace c2 := b3.cell
        replace f2 := b3.frozen
        replace l2 := b3.lt
        replace c1 := b4.cell
        replace f1 := b4.frozen
        replace l1 := b4.lt
        clear hb b1 b2 b3 b4 hB1
        go_wp2
        exact bodyPost_ret (v := .tuple #[.agg #[.int .i64 (x), .int .i64 (y), .int .i64 (z)], .bool true]) (by simp [results, Tryd.results42, go_sem, c2]) rfl (vecP_mk HN.out (((hB2.setCell (by dsimp only; omega) _).setCell (by dsimp only; omega) _).setCell (by dsimp only; omega) _))
    · have HV := Lib.hid (vecV_none (vecOf_len hi hl))
      obtain ⟨a, cap, rfl, _, _⟩ := hown
      have c0 := b0.cell
      have f0 := b0.frozen
      have l0 := b0.lt
      have hl1 : ((xs.length : Int) == 3) = false := by
        simp only [beq_eq_false_iff_ne, ne_eq]; omega
      have hl2 : ((xs.length : Int) != 3) = true := by
        simp only [bne_iff_ne, ne_eq]; omega
      clear hi hl
      simp only [Option.isSome_some, Option.getD_some]
      go_wp2
      exact bodyPost_ret (v := .tuple #[.agg #[.int .i64 (0), .int .i64 (0), .int .i64 (0)], .bool false]) (by simp [results, Tryd.results42, go_sem, c0]) rfl (vecP_mk HV.out (((hB.setCell (by dsimp only; omega) _).setCell (by dsimp only; omega) _).setCell (by dsimp only; omega) _))
end Go.Proofs.YtnibknaemgpjdaaDoor
