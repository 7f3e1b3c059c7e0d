/- FormatBox, FormatTransform, FormatPatch, of the program and of the reference. -/
import Derived.Test.YtnibknaemgpjdaaDoorFmtV
import Derived.Test.YtnibknaemgpjdaaDoorBox2
import Derived.Test.YtnibknaemgpjdaaDoorValT
import Derived.Test.YtnibknaemgpjdaaDoorValP
import Derived.Deep.RegionHeld3
namespace Go.Proofs.YtnibknaemgpjdaaDoor
open Go Go.RowKit Go.Sort

/-- The text of a box; empty where it is not valid. -/
def txB (a b c d e f : Int) : ByteArray := if vbB a b c d e f then (txV a b c ++ ⟨#[46, 46]⟩) ++ txV d e f else ⟨#[]⟩
/-- The text of numbers. -/
def txI (xs : List Int) : ByteArray := ⟨(fmtInts xs).toArray⟩
/-- The text of a transform; empty where it is not valid. -/
def txT (m0 m1 m2 m3 m4 m5 m6 m7 m8 x y z : Int) : ByteArray := if vbT m0 m1 m2 m3 m4 m5 m6 m7 m8 x y z then (txI [m0, m1, m2, m3, m4, m5, m6, m7, m8] ++ ⟨#[59]⟩) ++ txV x y z else ⟨#[]⟩
theorem okM_in {xs : List Int} (h : okM xs = true) : ∀ n ∈ xs, inR n = true := fun n hn => by
  have := inB_iff.1 (List.all_eq_true.1 h n hn)
  exact inR_of ⟨by omega, by omega⟩
theorem vbT_parts {m0 m1 m2 m3 m4 m5 m6 m7 m8 x y z : Int} (h : vbT m0 m1 m2 m3 m4 m5 m6 m7 m8 x y z = true) : okM [m0, m1, m2, m3, m4, m5, m6, m7, m8] = true ∧ vb x y z = true := by
  unfold vbT at h
  simpa using h
theorem txT_size {m0 m1 m2 m3 m4 m5 m6 m7 m8 x y z : Int} (h : vbT m0 m1 m2 m3 m4 m5 m6 m7 m8 x y z = true) : (txI [m0, m1, m2, m3, m4, m5, m6, m7, m8]).size ≤ 256 :=
  txInts_size (okM_in (vbT_parts h).1) (by simp)
theorem ints9 {w : World} {g : Nat} {t : TypeId} {m0 m1 m2 m3 m4 m5 m6 m7 m8 x y z : Int} (h : Blk w g t #[.int .i64 (m0), .int .i64 (m1), .int .i64 (m2), .int .i64 (m3), .int .i64 (m4), .int .i64 (m5), .int .i64 (m6), .int .i64 (m7), .int .i64 (m8), .int .i64 (x), .int .i64 (y), .int .i64 (z)]) : IntsAt w (.slice (some ⟨g, 0, none⟩) 9 9) [m0, m1, m2, m3, m4, m5, m6, m7, m8] := by
  refine ⟨_, _, rfl, fun _ => ⟨g, 0, rfl, h.lt, fun i hi => ?_⟩⟩
  rw [h.cell]
  have hi' : i < 9 := hi
  rcases (by omega : i = 0 ∨ i = 1 ∨ i = 2 ∨ i = 3 ∨ i = 4 ∨ i = 5 ∨ i = 6 ∨ i = 7 ∨ i = 8) with rfl | rfl | rfl | rfl | rfl | rfl | rfl | rfl | rfl <;> rfl
theorem fmtTxII (v : Value) (xs : List Int) (w : World) (h1 : IntsAt w v xs) (hn : xs.length ≤ 1048576) (hT : Tab w) : Calls Tryd.prog 19 #[v] w fun e w' => e = .returned (.string (txI xs)) ∧ Below w.heap.size w w' := fmtIntsI v xs w h1 hn hT
theorem fmtTxIS (v : Value) (xs : List Int) (w : World) (h1 : IntsAt w v xs) (hn : xs.length ≤ 1048576) : Calls Tryd.prog 83 #[v] w fun e w' => e = .returned (.string (txI xs)) ∧ Below w.heap.size w w' := fmtIntsS v xs w h1 hn
/-- One of four. -/
def sel4 (a b c d : Int) : Nat → Int
  | 0 => a
  | 1 => b
  | 2 => c
  | _ => d
/-- The texts of the first k corners. -/
def tsP (x y z : Nat → Int) (k : Nat) : List ByteArray := (List.range k).map fun i => txV (x i) (y i) (z i)
theorem tsP_succ (x y z : Nat → Int) (k : Nat) : tsP x y z (k + 1) = tsP x y z k ++ [txV (x k) (y k) (z k)] := by simp [tsP, List.range_succ]
theorem tsP_len (x y z : Nat → Int) (k : Nat) : (tsP x y z k).length = k := by simp [tsP]
theorem tsP_tot (x y z : Nat → Int) : tot (tsP x y z 4) ≤ 67108864 := by
  have h := fun i => txV_size (x i) (y i) (z i)
  have h0 := h 0
  have h1 := h 1
  have h2 := h 2
  have h3 := h 3
  simp [tsP, List.range_succ, tot]
  omega
/-- The text of a patch; empty where it is not valid. -/
def txP (p0 p1 p2 p3 p4 p5 p6 p7 p8 p9 p10 p11 : Int) : ByteArray := if vbP p0 p1 p2 p3 p4 p5 p6 p7 p8 p9 p10 p11 then ⟨(joinL [32] ((tsP (sel4 p0 p3 p6 p9) (sel4 p1 p4 p7 p10) (sel4 p2 p5 p8 p11) 4).map (·.data.toList))).toArray⟩ else ⟨#[]⟩
theorem index4 (p0 p1 p2 p3 p4 p5 p6 p7 p8 p9 p10 p11 : Int) (k : Nat) (hk : k < 4) : ∀ W, (Instr.index 24 (.agg #[.int .i64 (p0), .int .i64 (p1), .int .i64 (p2), .int .i64 (p3), .int .i64 (p4), .int .i64 (p5), .int .i64 (p6), .int .i64 (p7), .int .i64 (p8), .int .i64 (p9), .int .i64 (p10), .int .i64 (p11)]) (.int .i64 (k : Int))).run Tryd.prog W = .ok (.agg #[.int .i64 (sel4 p0 p3 p6 p9 k), .int .i64 (sel4 p1 p4 p7 p10 k), .int .i64 (sel4 p2 p5 p8 p11 k)]) W := by
  intro W
  rcases (by omega : k = 0 ∨ k = 1 ∨ k = 2 ∨ k = 3) with rfl | rfl | rfl | rfl <;> kernel_rfl
set_option maxHeartbeats 2000000 in
theorem fmtTransformS (m0 m1 m2 m3 m4 m5 m6 m7 m8 x y z : Int) (w : World) : Calls Tryd.prog 46 #[.agg #[.int .i64 (m0), .int .i64 (m1), .int .i64 (m2), .int .i64 (m3), .int .i64 (m4), .int .i64 (m5), .int .i64 (m6), .int .i64 (m7), .int .i64 (m8), .int .i64 (x), .int .i64 (y), .int .i64 (z)]] w fun r w' => r = .returned (.string (txT m0 m1 m2 m3 m4 m5 m6 m7 m8 x y z)) ∧ Below w.heap.size w w' := by
  have hB := below1 w (.cells #[.int .i64 (m0), .int .i64 (m1), .int .i64 (m2), .int .i64 (m3), .int .i64 (m4), .int .i64 (m5), .int .i64 (m6), .int .i64 (m7), .int .i64 (m8), .int .i64 (x), .int .i64 (y), .int .i64 (z)] 33)
  have b0 := Blk.new w 33 #[.int .i64 (m0), .int .i64 (m1), .int .i64 (m2), .int .i64 (m3), .int .i64 (m4), .int .i64 (m5), .int .i64 (m6), .int .i64 (m7), .int .i64 (m8), .int .i64 (x), .int .i64 (y), .int .i64 (z)]
  go_enter Tryd.func46, Tryd.ntmps46
  go_wp2_with fail
  generalize w.alloc (.cells #[.int .i64 (m0), .int .i64 (m1), .int .i64 (m2), .int .i64 (m3), .int .i64 (m4), .int .i64 (m5), .int .i64 (m6), .int .i64 (m7), .int .i64 (m8), .int .i64 (x), .int .i64 (y), .int .i64 (z)] 33) = W0 at hB b0 ⊢
  have c0 := b0.cell
  have f0 := b0.frozen
  have l0 := b0.lt
  refine (isValidTransformS _ _ _ _ _ _ _ _ _ _ _ _ _).mono ?_
  rintro e w1 ⟨rfl, hb⟩
  have hB := (by with_reducible first | exact b_keep hb hB | exact b_keep hb hB.drew)
  replace b0 : Blk w1 _ _ _ := (by with_reducible first | exact Blk.keep hb b0 | exact Blk.keep hb b0.drew)
  replace l0 := b0.lt
  replace c0 := b0.cell
  replace f0 := b0.frozen
  clear hb
  cases hv : vbT m0 m1 m2 m3 m4 m5 m6 m7 m8 x y z with
  | false =>
    have HV : Hid (txT m0 m1 m2 m3 m4 m5 m6 m7 m8 x y z = ⟨#[]⟩) := by show txT m0 m1 m2 m3 m4 m5 m6 m7 m8 x y z = _; unfold txT; rw [hv]; rfl
    clear hv
    go_wp2
    go_ret
    exact ⟨ret_str HV.out.symm, hB⟩
  | true =>
    have HV : Hid (txT m0 m1 m2 m3 m4 m5 m6 m7 m8 x y z = (txI [m0, m1, m2, m3, m4, m5, m6, m7, m8] ++ ⟨#[59]⟩) ++ txV x y z) := by show txT m0 m1 m2 m3 m4 m5 m6 m7 m8 x y z = _; unfold txT; rw [hv]; rfl
    have s1 := txT_size hv
    have s2 := txV_size x y z
    have n1 : ¬ 9223372036854775807 < (txI [m0, m1, m2, m3, m4, m5, m6, m7, m8]).size + 1 := by omega
    have n2 : ¬ 9223372036854775807 < (txI [m0, m1, m2, m3, m4, m5, m6, m7, m8]).size + 1 + (txV x y z).size := by omega
    clear hv s1 s2
    go_wp2_with fail
    go_region_held3 (fun w' => (∀ i, w'.cell? ⟨w.heap.size, i, none⟩ = (#[.int .i64 (m0), .int .i64 (m1), .int .i64 (m2), .int .i64 (m3), .int .i64 (m4), .int .i64 (m5), .int .i64 (m6), .int .i64 (m7), .int .i64 (m8), .int .i64 (x), .int .i64 (y), .int .i64 (z)] : Array Value)[i]?)) (first | with_reducible exact b0.cell | with_reducible exact b0.drew.cell)
      (first | (go_at_call 78; refine (fmtVecS _ _ _ _).mono ?_; rintro e w1 ⟨rfl, hb⟩; have hB := (by with_reducible first | exact b_keep hb hB | exact b_keep hb hB.drew); replace b0 : Blk w1 _ _ _ := (by with_reducible first | exact Blk.keep hb b0 | exact Blk.keep hb b0.drew); replace l0 := b0.lt; replace c0 := b0.cell; replace f0 := b0.frozen) | (go_at_call 83; refine (fmtTxIS _ [m0, m1, m2, m3, m4, m5, m6, m7, m8] _ (by with_reducible first | exact ints9 b0 | exact ints9 b0.drew) (by simp)).mono ?_; rintro e w1 ⟨rfl, hb⟩; have hB := (by with_reducible first | exact b_keep hb hB | exact b_keep hb hB.drew); replace b0 : Blk w1 _ _ _ := (by with_reducible first | exact Blk.keep hb b0 | exact Blk.keep hb b0.drew); replace l0 := b0.lt; replace c0 := b0.cell; replace f0 := b0.frozen))
    go_wp2
    go_ret
    exact ⟨ret_str HV.out.symm, hB⟩
set_option maxHeartbeats 4000000 in
theorem fmtPatchI (p0 p1 p2 p3 p4 p5 p6 p7 p8 p9 p10 p11 : Int) (w : World) (hT : Tab w) : Calls Tryd.prog 37 #[.agg #[.int .i64 (p0), .int .i64 (p1), .int .i64 (p2), .int .i64 (p3), .int .i64 (p4), .int .i64 (p5), .int .i64 (p6), .int .i64 (p7), .int .i64 (p8), .int .i64 (p9), .int .i64 (p10), .int .i64 (p11)]] w fun r w' => r = .returned (.string (txP p0 p1 p2 p3 p4 p5 p6 p7 p8 p9 p10 p11)) ∧ Below w.heap.size w w' := by
  obtain ⟨t0, hi, hz0, hz1, hz2⟩ := info_parts infoStrF
  have hB := below1 w (.cells #[.int .i64 (p0), .int .i64 (p1), .int .i64 (p2), .int .i64 (p3), .int .i64 (p4), .int .i64 (p5), .int .i64 (p6), .int .i64 (p7), .int .i64 (p8), .int .i64 (p9), .int .i64 (p10), .int .i64 (p11)] 26)
  have b0 := Blk.new w 26 #[.int .i64 (p0), .int .i64 (p1), .int .i64 (p2), .int .i64 (p3), .int .i64 (p4), .int .i64 (p5), .int .i64 (p6), .int .i64 (p7), .int .i64 (p8), .int .i64 (p9), .int .i64 (p10), .int .i64 (p11)]
  have HT := Lib.hid hT
  clear hT
  go_enter Tryd.func37, Tryd.ntmps37
  go_wp2_with fail
  generalize w.alloc (.cells #[.int .i64 (p0), .int .i64 (p1), .int .i64 (p2), .int .i64 (p3), .int .i64 (p4), .int .i64 (p5), .int .i64 (p6), .int .i64 (p7), .int .i64 (p8), .int .i64 (p9), .int .i64 (p10), .int .i64 (p11)] 26) = W0 at hB b0 ⊢
  have c0 := b0.cell
  have f0 := b0.frozen
  have l0 := b0.lt
  refine (isValidPatchI _ _ _ _ _ _ _ _ _ _ _ _ _).mono ?_
  rintro e w1 ⟨rfl, hb⟩
  have hB := (by with_reducible first | exact b_keep hb hB | exact b_keep hb hB.drew)
  replace b0 : Blk w1 _ _ _ := (by with_reducible first | exact Blk.keep hb b0 | exact Blk.keep hb b0.drew)
  replace l0 := b0.lt
  replace c0 := b0.cell
  replace f0 := b0.frozen
  clear hb
  cases hv : vbP p0 p1 p2 p3 p4 p5 p6 p7 p8 p9 p10 p11 with
  | false =>
    have HV : Hid (txP p0 p1 p2 p3 p4 p5 p6 p7 p8 p9 p10 p11 = ⟨#[]⟩) := by show txP p0 p1 p2 p3 p4 p5 p6 p7 p8 p9 p10 p11 = _; unfold txP; rw [hv]; rfl
    clear hv
    go_wp2
    go_ret
    exact ⟨ret_str HV.out.symm, hB⟩
  | true =>
    have HV : Hid (txP p0 p1 p2 p3 p4 p5 p6 p7 p8 p9 p10 p11 = ⟨(joinL [32] ((tsP (sel4 p0 p3 p6 p9) (sel4 p1 p4 p7 p10) (sel4 p2 p5 p8 p11) 4).map (·.data.toList))).toArray⟩) := by show txP p0 p1 p2 p3 p4 p5 p6 p7 p8 p9 p10 p11 = _; unfold txP; rw [hv]; rfl
    have hidx := index4 p0 p1 p2 p3 p4 p5 p6 p7 p8 p9 p10 p11
    have HX := Lib.hid hidx
    have hown0 : (w1.alloc (.cells #[] 9)).ownsRow w1.heap.size 9 1 (.slice (some ⟨w1.heap.size, 0, none⟩) 0 0) 0 [] := World.ownsRow_made w1 #[] 0 (Nat.le_refl _) (by decide) rfl
    have HO := Lib.hid hown0
    have hN := hB.size
    have hB1 := below1 w1 (.cells #[] 9)
    clear hv hown0 hidx
    go_wp2
    go_loopw [3, 12] (fun v j wr => ∃ k : Nat, k ≤ 4 ∧ j = .int .i64 k ∧ wr.ownsRow w1.heap.size 9 1 v k ((tsP (sel4 p0 p3 p6 p9) (sel4 p1 p4 p7 p10) (sel4 p2 p5 p8 p11) k).map Value.string) ∧ Below w1.heap.size w1 wr) (fun _ j _ => 4 - (intOf j).toNat)
    case atStart => exact ⟨0, by omega, rfl, HO.out, hB1⟩
    case round =>
      obtain ⟨k, hk, rfl, hown, hB2⟩ := hrel
      have HW := Lib.hid hown
      clear hB1 HO hown
      by_cases hlt : k < 4
      · have hidx := HX.out k hlt
        have HS := Lib.hid (tsP_succ (sel4 p0 p3 p6 p9) (sel4 p1 p4 p7 p10) (sel4 p2 p5 p8 p11) k)
        have hk0 : (k : Int) < 4 := by omega
        generalize sel4 p0 p3 p6 p9 k = x at hidx HS
        generalize sel4 p1 p4 p7 p10 k = y at hidx HS
        generalize sel4 p2 p5 p8 p11 k = z at hidx HS
        have hN2 := hB2.size
        have hB3 := hB2.alloc hN2 (.cells #[.int .i64 (x), .int .i64 (y), .int .i64 (z)] 23)
        have HW3 := Lib.hid (HW.out.alloc (.cells #[.int .i64 (x), .int .i64 (y), .int .i64 (z)] 23))
        go_wp2_with fail
        generalize wr.alloc (.cells #[.int .i64 (x), .int .i64 (y), .int .i64 (z)] 23) = W3 at hB3 HW3 ⊢
        refine (fmtVecI _ _ _ _ (HT.out.keep (hB.trans (hB3.mono hN)))).mono ?_
        rintro e w4 ⟨rfl, hb⟩
        have hown4 := own_keep HW3.out hb
        have hB4 := b_keep hb hB3
        have hN4 := hB4.size
        clear hb hidx
        go_wp2_with (at_builtin; refine wpList_append_own _ rfl _ _ 50 rfl w1.heap.size 9 t0 (.string ByteArray.empty) 1 16 Tryd.underlying50 hi hz0 hz1 hz2 rfl (by decide) _ _ _ rfl (hown4.alloc _) ⟨w4.heap.size, 0, none⟩ 1 1 [.string (txV x y z)] rfl rfl ?c1 ?c2 ?c3 ?c4 ?c5 ?_)
        case c1 => exact news_one
        case c2 => intro u hu; simp at hu; subst hu; rfl
        case c3 => unfold maxLen; omega
        case c4 => omega
        case c5 => simp; omega
        intro v' w5 hown' hgrow _
        have hB5 := below_own (hB4.alloc hN4 _) (hown4.alloc _) hgrow (by simp; omega)
        clear hgrow hown4 hB4
        go_wp2
        go_roundw
        case rel => exact ⟨k + 1, by omega, by go_num, by rw [HS.out]; simpa using hown', hB5⟩
        case measure => simp [intOf]; omega
      · obtain rfl : k = 4 := by omega
        obtain ⟨hs, hcap⟩ := own_strs HW.out
        have HJ := Lib.hid (joinI _ _ ⟨#[32]⟩ wr hs hcap (by rw [tsP_len]; omega) (tsP_tot _ _ _) (by decide))
        clear hs hcap
        have hk4 : ¬ ((4 : Nat) : Int) < 4 := by omega
        go_wp2_with fail
        refine HJ.out.mono ?_
        rintro e w4 ⟨rfl, hb⟩
        go_wp2
        go_ret
        exact ⟨ret_str HV.out.symm, hB.trans ((b_keep hb hB2).mono hN)⟩
set_option maxHeartbeats 4000000 in
theorem fmtPatchS (p0 p1 p2 p3 p4 p5 p6 p7 p8 p9 p10 p11 : Int) (w : World) : Calls Tryd.prog 43 #[.agg #[.int .i64 (p0), .int .i64 (p1), .int .i64 (p2), .int .i64 (p3), .int .i64 (p4), .int .i64 (p5), .int .i64 (p6), .int .i64 (p7), .int .i64 (p8), .int .i64 (p9), .int .i64 (p10), .int .i64 (p11)]] w fun r w' => r = .returned (.string (txP p0 p1 p2 p3 p4 p5 p6 p7 p8 p9 p10 p11)) ∧ Below w.heap.size w w' := by
  obtain ⟨t0, hi, hz0, hz1, hz2⟩ := info_parts infoStrF
  have hB := below1 w (.cells #[.int .i64 (p0), .int .i64 (p1), .int .i64 (p2), .int .i64 (p3), .int .i64 (p4), .int .i64 (p5), .int .i64 (p6), .int .i64 (p7), .int .i64 (p8), .int .i64 (p9), .int .i64 (p10), .int .i64 (p11)] 26)
  have b0 := Blk.new w 26 #[.int .i64 (p0), .int .i64 (p1), .int .i64 (p2), .int .i64 (p3), .int .i64 (p4), .int .i64 (p5), .int .i64 (p6), .int .i64 (p7), .int .i64 (p8), .int .i64 (p9), .int .i64 (p10), .int .i64 (p11)]
  go_enter Tryd.func43, Tryd.ntmps43
  go_wp2_with fail
  generalize w.alloc (.cells #[.int .i64 (p0), .int .i64 (p1), .int .i64 (p2), .int .i64 (p3), .int .i64 (p4), .int .i64 (p5), .int .i64 (p6), .int .i64 (p7), .int .i64 (p8), .int .i64 (p9), .int .i64 (p10), .int .i64 (p11)] 26) = W0 at hB b0 ⊢
  have c0 := b0.cell
  have f0 := b0.frozen
  have l0 := b0.lt
  refine (isValidPatchS _ _ _ _ _ _ _ _ _ _ _ _ _).mono ?_
  rintro e w1 ⟨rfl, hb⟩
  have hB := (by with_reducible first | exact b_keep hb hB | exact b_keep hb hB.drew)
  replace b0 : Blk w1 _ _ _ := (by with_reducible first | exact Blk.keep hb b0 | exact Blk.keep hb b0.drew)
  replace l0 := b0.lt
  replace c0 := b0.cell
  replace f0 := b0.frozen
  clear hb
  cases hv : vbP p0 p1 p2 p3 p4 p5 p6 p7 p8 p9 p10 p11 with
  | false =>
    have HV : Hid (txP p0 p1 p2 p3 p4 p5 p6 p7 p8 p9 p10 p11 = ⟨#[]⟩) := by show txP p0 p1 p2 p3 p4 p5 p6 p7 p8 p9 p10 p11 = _; unfold txP; rw [hv]; rfl
    clear hv
    go_wp2
    go_ret
    exact ⟨ret_str HV.out.symm, hB⟩
  | true =>
    have HV : Hid (txP p0 p1 p2 p3 p4 p5 p6 p7 p8 p9 p10 p11 = ⟨(joinL [32] ((tsP (sel4 p0 p3 p6 p9) (sel4 p1 p4 p7 p10) (sel4 p2 p5 p8 p11) 4).map (·.data.toList))).toArray⟩) := by show txP p0 p1 p2 p3 p4 p5 p6 p7 p8 p9 p10 p11 = _; unfold txP; rw [hv]; rfl
    have hidx := index4 p0 p1 p2 p3 p4 p5 p6 p7 p8 p9 p10 p11
    have HX := Lib.hid hidx
    have hown0 : (w1.alloc (.cells #[] 9)).ownsRow w1.heap.size 9 1 (.slice (some ⟨w1.heap.size, 0, none⟩) 0 0) 0 [] := World.ownsRow_made w1 #[] 0 (Nat.le_refl _) (by decide) rfl
    have HO := Lib.hid hown0
    have hN := hB.size
    have hB1 := below1 w1 (.cells #[] 9)
    clear hv hown0 hidx
    go_wp2
    go_loopw [3, 12] (fun v j wr => ∃ k : Nat, k ≤ 4 ∧ j = .int .i64 k ∧ wr.ownsRow w1.heap.size 9 1 v k ((tsP (sel4 p0 p3 p6 p9) (sel4 p1 p4 p7 p10) (sel4 p2 p5 p8 p11) k).map Value.string) ∧ Below w1.heap.size w1 wr) (fun _ j _ => 4 - (intOf j).toNat)
    case atStart => exact ⟨0, by omega, rfl, HO.out, hB1⟩
    case round =>
      obtain ⟨k, hk, rfl, hown, hB2⟩ := hrel
      have HW := Lib.hid hown
      clear hB1 HO hown
      by_cases hlt : k < 4
      · have hidx := HX.out k hlt
        have HS := Lib.hid (tsP_succ (sel4 p0 p3 p6 p9) (sel4 p1 p4 p7 p10) (sel4 p2 p5 p8 p11) k)
        have hk0 : (k : Int) < 4 := by omega
        generalize sel4 p0 p3 p6 p9 k = x at hidx HS
        generalize sel4 p1 p4 p7 p10 k = y at hidx HS
        generalize sel4 p2 p5 p8 p11 k = z at hidx HS
        have hN2 := hB2.size
        have hB3 := hB2.alloc hN2 (.cells #[.int .i64 (x), .int .i64 (y), .int .i64 (z)] 23)
        have HW3 := Lib.hid (HW.out.alloc (.cells #[.int .i64 (x), .int .i64 (y), .int .i64 (z)] 23))
        go_wp2_with fail
        generalize wr.alloc (.cells #[.int .i64 (x), .int .i64 (y), .int .i64 (z)] 23) = W3 at hB3 HW3 ⊢
        refine (fmtVecS _ _ _ _).mono ?_
        rintro e w4 ⟨rfl, hb⟩
        have hown4 := own_keep HW3.out hb
        have hB4 := b_keep hb hB3
        have hN4 := hB4.size
        clear hb hidx
        go_wp2_with (at_builtin; refine wpList_append_own _ rfl _ _ 50 rfl w1.heap.size 9 t0 (.string ByteArray.empty) 1 16 Tryd.underlying50 hi hz0 hz1 hz2 rfl (by decide) _ _ _ rfl (hown4.alloc _) ⟨w4.heap.size, 0, none⟩ 1 1 [.string (txV x y z)] rfl rfl ?c1 ?c2 ?c3 ?c4 ?c5 ?_)
        case c1 => exact news_one
        case c2 => intro u hu; simp at hu; subst hu; rfl
        case c3 => unfold maxLen; omega
        case c4 => omega
        case c5 => simp; omega
        intro v' w5 hown' hgrow _
        have hB5 := below_own (hB4.alloc hN4 _) (hown4.alloc _) hgrow (by simp; omega)
        clear hgrow hown4 hB4
        go_wp2
        go_roundw
        case rel => exact ⟨k + 1, by omega, by go_num, by rw [HS.out]; simpa using hown', hB5⟩
        case measure => simp [intOf]; omega
      · obtain rfl : k = 4 := by omega
        obtain ⟨hs, hcap⟩ := own_strs HW.out
        have HJ := Lib.hid (joinS _ _ ⟨#[32]⟩ wr hs (by rw [tsP_len]; omega) (tsP_tot _ _ _) (by decide))
        clear hs hcap
        have hk4 : ¬ ((4 : Nat) : Int) < 4 := by omega
        go_wp2_with fail
        refine HJ.out.mono ?_
        rintro e w4 ⟨rfl, rfl⟩
        go_wp2
        go_ret
        exact ⟨ret_str HV.out.symm, hB.trans (hB2.mono hN)⟩
end Go.Proofs.YtnibknaemgpjdaaDoor
