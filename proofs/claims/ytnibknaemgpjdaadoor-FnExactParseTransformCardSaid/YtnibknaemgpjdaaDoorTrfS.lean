/- ParseTransform of the reference. -/
import Derived.Test.YtnibknaemgpjdaaDoorTrfP
namespace Go.Proofs.YtnibknaemgpjdaaDoor
open Go Go.RowKit Go.Sort

theorem parts_two {ss : List ByteArray} {x y : List UInt8} (h : ss.map (·.data.toList) = [x, y]) :
    ((ss ++ [ByteArray.empty])[0]?.getD ByteArray.empty).data.toList = x ∧ ((ss ++ [ByteArray.empty])[1]?.getD ByteArray.empty).data.toList = y := by
  match ss, h with
  | [a, b], h =>
    simp only [List.map_cons, List.map_nil, List.cons.injEq, and_true] at h
    exact h
theorem sizes_more {ss : List ByteArray} {n : Nat} (h : ∀ x ∈ ss, x.size ≤ n) : ∀ x ∈ ss ++ [ByteArray.empty], x.size ≤ n := fun x hx => by
  rcases List.mem_append.1 hx with h1 | h1
  · exact h x h1
  · obtain rfl := List.mem_singleton.1 h1
    exact Nat.zero_le _
set_option maxRecDepth 100000 in
theorem trS_end {s : ByteArray} {w W : World} {a : Act} {cs : Array Value} {b : Bool} (hb : Blk W w.heap.size 33 cs) (hs : cs.size = 12) (hp : a.tmps.getD 2 undef = .pointer (some ⟨w.heap.size, 0, none⟩))
    (hq : a.tmps.getD 3 undef = .bool b) (hd : a.defers = []) (hv : trV s.data.toList = .tuple #[.agg cs, .bool b]) (hB : Below w.heap.size w W) : bodyPost Tryd.prog Tryd.f11 (TrRes s w) .ret a W :=
  bodyPost_ret (by rw [results_row_tmp rfl a.tmps W w.heap.size 33 cs (0, 0) _ hp hb rfl rfl (by rw [hs]; exact info_tr), hq]) hd (tr_mk hv hB)
def TxRRes (ms : List Int) (v : V3) (w : World) (e : Ending) (w' : World) : Prop := e = .returned (.string (txR ms v)) ∧ Below w.heap.size w w'
theorem fmtRS (ms : List Int) (v : V3) (w : World) : Calls Tryd.prog 46 #[.agg (cellsT ms v)] w (TxRRes ms v w) := fmtTransformS _ _ _ _ _ _ _ _ _ _ _ _ w
theorem ends_two (ss : List ByteArray) (h : 0 < ss.length) : 1 < (ss ++ [ByteArray.empty]).length := by rw [List.length_append]; simp; omega
theorem allNums_len2 : ∀ {ws : List (List UInt8)} {xs : List Int}, allNums ws = some xs → xs.length = ws.length := by
  intro ws xs h
  rw [(allNums_some h).1, List.length_map]
theorem intsOf_len2 (s : ByteArray) : ((intsOf s.data.toList).getD []).length ≤ s.size + 1 := by
  cases h : intsOf s.data.toList with
  | none => simp
  | some xs =>
    unfold intsOf at h
    split at h
    · obtain rfl := Option.some.inj h
      simp
    · have h1 := allNums_len2 h
      have h2 := pieces_split s 44
      have h3 := pieces_len s (sepB ⟨#[44]⟩)
      rw [← h2, List.length_map] at h1
      show xs.length ≤ _
      omega
/-- The code behind the first loop. -/
def isLoop : Code → Bool
  | .loop _ => true
  | .block _ c => isLoop c
  | .scope c => isLoop c
  | .seq _ b => isLoop b
  | _ => false
def lastPart : Code → Option Code
  | .seq a b => if isLoop a then some b else match lastPart b with
    | some c => some c
    | none => lastPart a
  | .block _ c => lastPart c
  | .scope c => lastPart c
  | _ => none
noncomputable def tailTr : Code := (Tryd.f11.body.bind lastPart).getD .skip
set_option maxHeartbeats 8000000 in
set_option maxRecDepth 100000 in
theorem trS_tail (s : ByteArray) (w wr : World) (q : Nat) (xs : List Int) (v : V3)
    (hY : ∀ ms v', trOf s.data.toList = some (ms, v') → xs = ms ∧ v = v' ∧ txR ms v' = s ∧ s.toList.isEmpty = false)
    (b2 : Blk wr q 33 (cellsT xs v)) (b0 : Blk wr w.heap.size 33 #[.int .i64 (0), .int .i64 (0), .int .i64 (0), .int .i64 (0), .int .i64 (0), .int .i64 (0), .int .i64 (0), .int .i64 (0), .int .i64 (0), .int .i64 (0), .int .i64 (0), .int .i64 (0)]) (hB : Below w.heap.size w wr) (u1 u3 u4 u5 u6 u7 u8 u10 u11 u12 u13 u14 u15 u16 u17 u18 u19 u20 u21 u22 u23 u24 u25 u26 u27 u28 u29 u30 u31 u32 u33 u34 u35 u36 u37 u38 u39 u40 u41 u42 u43 u44 u45 u46 u47 u48 u49 u50 u51 u52 u53 u54 u55 u56 : Value) :
    Code.wp Tryd.prog tailTr (bodyPost Tryd.prog Tryd.f11 (TrRes s w)) ⟨#[.string s, u1, .pointer (some ⟨w.heap.size, 0, none⟩), u3, u4, u5, u6, u7, u8, .pointer (some ⟨q, 0, none⟩), u10, u11, u12, u13, u14, u15, u16, u17, u18, u19, u20, u21, u22, u23, u24, u25, u26, u27, u28, u29, u30, u31, u32, u33, u34, u35, u36, u37, u38, u39, u40, u41, u42, u43, u44, u45, u46, u47, u48, u49, u50, u51, u52, u53, u54, u55, u56], []⟩ wr := by
  conv => arg 2; whnf
  have B0 := Lib.hid b0
  have HY := Lib.hid hY
  clear b0 hY
  cases hp : trOf s.data.toList with
  | some mv =>
    obtain ⟨ms', v'⟩ := mv
    obtain ⟨rfl, rfl, e2, he⟩ := HY.out ms' v' hp
    have HN := Lib.hid (trV_some hp)
    have HF := Lib.hid (fun W => fmtRS xs v W)
    unfold TxRRes at HF
    rw [e2] at HF
    unfold cellsT at HF b2 HN
    have B2 := Lib.hid b2
    have c2 := b2.cell
    have f2 := b2.frozen
    have l2 := b2.lt
    clear e2 hp b2 HY
    go_wp2_with fail
    refine (HF.out _).mono ?_
    rintro e w6 ⟨rfl, hb⟩
    have b2 := Blk.keep hb B2.out
    have b0 := Blk.keep hb B0.out
    replace hB := b_keep hb hB
    have B2 := Lib.hid b2
    have B0 := Lib.hid b0
    replace c2 := b2.cell
    replace f2 := b2.frozen
    replace l2 := b2.lt
    clear hb b2 b0
    go_wp2_with fail
    refine (HF.out _).mono ?_
    rintro e w7 ⟨rfl, hb⟩
    have b2 := Blk.keep hb B2.out
    have b0 := Blk.keep hb B0.out
    replace hB := b_keep hb hB
    replace c2 := b2.cell
    replace f2 := b2.frozen
    replace l2 := b2.lt
    have c0 := b0.cell
    have f0 := b0.frozen
    have l0 := b0.lt
    clear hb
    go_wp2
    exact trS_end (blk_row12 b0 rfl _ _ _ _ _ _ _ _ _ _ _ _) rfl rfl rfl rfl HN.out (below_row12 hB (Nat.le_refl _) _ _ _ _ _ _ _ _ _ _ _ _)
  | none =>
    have hno := tr_no hp xs v
    have HN := Lib.hid (trV_none hp)
    rw [cellsT_nil] at HN
    have HF := Lib.hid (fun W => fmtRS xs v W)
    unfold TxRRes at HF
    generalize txR xs v = t at HF hno
    unfold cellsT at HF b2
    have B2 := Lib.hid b2
    have c2 := b2.cell
    have f2 := b2.frozen
    have l2 := b2.lt
    clear hp b2 HY
    cases he : t.toList.isEmpty with
    | true =>
      clear hno
      go_wp2_with fail
      refine (HF.out _).mono ?_
      rintro e w6 ⟨rfl, hb⟩
      have b0 := Blk.keep hb B0.out
      replace hB := b_keep hb hB
      have c0 := b0.cell
      have f0 := b0.frozen
      have l0 := b0.lt
      clear hb
      go_wp2
      exact trS_end (blk_row12 b0 rfl _ _ _ _ _ _ _ _ _ _ _ _) rfl rfl rfl rfl HN.out (below_row12 hB (Nat.le_refl _) _ _ _ _ _ _ _ _ _ _ _ _)
    | false =>
      have hne : (t.toList == s.toList) = false := by
        rcases hno with h | h
        · rw [he] at h; cases h
        · exact h
      clear hno
      go_wp2_with fail
      refine (HF.out _).mono ?_
      rintro e w6 ⟨rfl, hb⟩
      have b2 := Blk.keep hb B2.out
      have b0 := Blk.keep hb B0.out
      replace hB := b_keep hb hB
      have B2 := Lib.hid b2
      have B0 := Lib.hid b0
      replace c2 := b2.cell
      replace f2 := b2.frozen
      replace l2 := b2.lt
      clear hb b2 b0
      go_wp2_with fail
      refine (HF.out _).mono ?_
      rintro e w7 ⟨rfl, hb⟩
      have b0 := Blk.keep hb B0.out
      replace hB := b_keep hb hB
      have c0 := b0.cell
      have f0 := b0.frozen
      have l0 := b0.lt
      clear hb
      go_wp2
      exact trS_end (blk_row12 b0 rfl _ _ _ _ _ _ _ _ _ _ _ _) rfl rfl rfl rfl HN.out (below_row12 hB (Nat.le_refl _) _ _ _ _ _ _ _ _ _ _ _ _)
set_option maxHeartbeats 8000000 in
set_option maxRecDepth 100000 in
theorem parTrS (s : ByteArray) (hs : s.size ≤ 1048576) (w : World) : Calls Tryd.prog 11 #[.string s] w (TrRes s w) := by
  obtain ⟨i0, hi, hz0, hz1, hz2⟩ := info_parts infoStr
  have hB0 := below1 w (.cells (cellsT [] (0, 0, 0)) 33)
  have b00 := Blk.new w 33 (cellsT [] (0, 0, 0))
  go_enter Tryd.func11, Tryd.ntmps11
  rw [cellsT_nil] at hB0 b00
  go_wp2_with fail
  generalize w.alloc (.cells #[.int .i64 (0), .int .i64 (0), .int .i64 (0), .int .i64 (0), .int .i64 (0), .int .i64 (0), .int .i64 (0), .int .i64 (0), .int .i64 (0), .int .i64 (0), .int .i64 (0), .int .i64 (0)] 33) = W0 at hB0 b00 ⊢
  refine (splitS3 s ⟨#[59]⟩ W0 hs (by decide)).mono ?_
  rintro e w1 ⟨v0, rfl, hown, hb⟩
  obtain ⟨ss, hss⟩ : ∃ ss, pieces s (sepB ⟨#[59]⟩) = ss := ⟨_, rfl⟩
  have hsp := pieces_split s 59
  have hlen := pieces_len s (sepB ⟨#[59]⟩)
  have hsize := sizes_more (pieces_size s (sepB ⟨#[59]⟩))
  rw [hss] at hown hsp hlen hsize
  have hpos : 0 < ss.length := by
    have := congrArg List.length hsp
    rw [List.length_map] at this
    rw [this]
    exact List.length_pos_iff.2 (splitL_ne _ _)
  have HSP := Lib.hid hsp
  have hsz1 := hb.size
  go_wp2_with (at_builtin; refine wpList_append_own _ rfl _ _ 50 rfl W0.heap.size 9 i0 (.string ByteArray.empty) 1 16 Tryd.underlying50 hi hz0 hz1 hz2 rfl (by decide) _ _ _ rfl (hown.alloc _) ⟨w1.heap.size, 0, none⟩ 1 1 [.string ByteArray.empty] rfl rfl ?d1 ?d2 ?d3 ?d4 ?d5 ?_)
  case d1 => exact news_one
  case d2 => intro u hu; simp at hu; subst hu; rfl
  case d3 => unfold maxLen; omega
  case d4 => omega
  case d5 => simp; omega
  intro v' w2 hown' hgrow _
  have hB2 := below_own (hb.alloc hsz1 _) (hown.alloc _) hgrow (by simp; omega)
  have hB := b_keep hB2 hB0
  have b0 := Blk.keep hB2 b00
  have hst : OwnStrs w2 W0.heap.size v' (ss ++ [ByteArray.empty]) := ownStrs_of_row (n := ss.length + 1) (by simpa using hown')
  have hB2s := hB2.size
  have hw0 := b00.lt
  clear hown hown' hgrow hb hB2 hB0 b00 hi hz0 hz1 hz2 hss hsp
  have htwo := ends_two ss hpos
  have HTWO : Hid (∀ x y, splitL (fun c => c == 59) s.data.toList = [x, y] → ((ss ++ [ByteArray.empty])[0]?.getD ByteArray.empty).data.toList = x ∧ ((ss ++ [ByteArray.empty])[1]?.getD ByteArray.empty).data.toList = y) := Lib.hid (fun x y h => parts_two (by rw [HSP.out]; exact h))
  generalize ss ++ [ByteArray.empty] = ts at hst htwo HTWO hsize
  obtain ⟨a, cap, rfl, hcap, hc⟩ := hst
  obtain ⟨g, rfl, hBg, hlg, hcell⟩ := hc (by omega)
  have d0 := (hcell 0 (by omega)).1
  have d1 := (hcell 1 htwo).1
  have hs0 : (ts[0]?.getD ByteArray.empty).size ≤ 1048576 := Nat.le_trans (piece_at hsize) hs
  have hs1 : (ts[1]?.getD ByteArray.empty).size ≤ 1048576 := Nat.le_trans (piece_at hsize) hs
  generalize ts[0]?.getD ByteArray.empty = p0 at d0 hs0 HTWO
  generalize ts[1]?.getD ByteArray.empty = p1 at d1 hs1 HTWO
  have ht0 : (0 : Int) < (ts.length : Int) := by omega
  have ht1 : (1 : Int) < (ts.length : Int) := by omega
  clear hc hcell hsize hlen HSP hcap
  have HY : Hid (∀ ms v, trOf s.data.toList = some (ms, v) → (intsOf p0.data.toList).getD [] = ms ∧ vz p1.data.toList = v ∧ txR ms v = s ∧ s.toList.isEmpty = false) := Lib.hid (fun ms v h => by
    obtain ⟨y1, y2, y3, y4, y5⟩ := tr_yes h
    obtain ⟨e0, e1⟩ := HTWO.out _ _ y1
    refine ⟨by rw [e0, y2]; rfl, by rw [e1]; unfold vz; rw [y3]; rfl, y4, y5⟩)
  clear HTWO
  have HP := Lib.hid (parIntsS p0 hs0 w2)
  have hxl := intsOf_len2 p0
  have HV := Lib.hid (fun W => parVecS p1 hs1 W)
  unfold ParRes at HP
  unfold VecPRes at HV
  rw [vecV_vz] at HV
  go_wp2_with fail
  refine HP.out.mono ?_
  rintro e w3 ⟨u, rfl, ho, hb⟩
  replace d1 := (hb.cell (p := ⟨g, 1, none⟩) hlg).trans d1
  replace b0 : Blk w3 _ _ _ := Blk.keep hb b0
  replace hB := b_keep hb hB
  have hs23 := hb.size
  clear hb HP d0
  generalize (intsOf p0.data.toList).getD [] = xs at ho HY hxl
  generalize (intsOf p0.data.toList).isSome = o1
  go_wp2_with fail
  refine (HV.out _).mono ?_
  rintro e w4 ⟨rfl, hb⟩
  replace b0 : Blk w4 _ _ _ := Blk.keep hb b0
  replace ho := ho.keep hb
  replace hB := b_keep hb hB
  clear hb HV d1
  generalize vz p1.data.toList = v at HY ⊢
  generalize (vecOf p1.data.toList).isSome = o2
  obtain ⟨a2, cap2, rfl, _, hx⟩ := ho
  have b2 := Blk.new (w4.alloc (.cells #[.int .i64 v.1, .int .i64 v.2.1, .int .i64 v.2.2] 23)) 33 (cellsT [] v)
  have bb := b0
  replace b0 := (b0.alloc (.cells #[.int .i64 v.1, .int .i64 v.2.1, .int .i64 v.2.2] 23)).alloc (.cells (cellsT [] v) 33)
  have hA := hB.alloc hB.size (.cells #[.int .i64 v.1, .int .i64 v.2.1, .int .i64 v.2.2] 23)
  replace hB := hA.alloc hA.size (.cells (cellsT [] v) 33)
  have hs34 : w4.heap.size < (w4.alloc (.cells #[.int .i64 v.1, .int .i64 v.2.1, .int .i64 v.2.2] 23)).heap.size := by simp
  have hw4 : w.heap.size < w4.heap.size := bb.lt
  rw [cellsT_nilV] at b2 b0 hB
  have HX : Hid (0 < xs.length → ∃ g2, a2 = some ⟨g2, 0, none⟩ ∧ g2 < w4.heap.size ∧ ∀ i, i < xs.length → ((w4.alloc (.cells #[.int .i64 v.1, .int .i64 v.2.1, .int .i64 v.2.2] 23)).alloc (.cells (cellsT [] v) 33)).cell? ⟨g2, i, none⟩ = some (.int .i64 (xs[i]?.getD 0))) := Lib.hid (fun h0 => by
    obtain ⟨g2, rfl, _, hl2, hc2⟩ := hx h0
    exact ⟨g2, rfl, hl2, fun i hi => ((below2 w4 (.cells #[.int .i64 v.1, .int .i64 v.2.1, .int .i64 v.2.2] 23) (.cells (cellsT [] v) 33)).cell (p := ⟨g2, i, none⟩) hl2).trans (hc2 i hi).1⟩)
  rw [cellsT_nilV] at HX
  clear hx hA bb
  go_wp2_with fail
  obtain ⟨q, hq⟩ : ∃ q, (w4.alloc (.cells #[.int .i64 v.1, .int .i64 v.2.1, .int .i64 v.2.2] 23)).heap.size = q := ⟨_, rfl⟩
  rw [hq] at b2 hs34
  have hq' : w4.heap.size + 1 = q := by rw [← hq]; simp
  try rw [hq']
  try rw [hq]
  generalize (w4.alloc (.cells #[.int .i64 v.1, .int .i64 v.2.1, .int .i64 v.2.2] 23)).alloc (.cells #[.int .i64 0, .int .i64 0, .int .i64 0, .int .i64 0, .int .i64 0, .int .i64 0, .int .i64 0, .int .i64 0, .int .i64 0, .int .i64 v.1, .int .i64 v.2.1, .int .i64 v.2.2] 33) = W5 at b0 b2 hB HX ⊢
  rw [← cellsT_nilV] at b2
  have B0 := Lib.hid b0
  have B2 := Lib.hid b2
  have HB := Lib.hid hB
  have hB5 : Below q W5 W5 := Below.refl _ _
  have HR := Lib.hid hB5
  clear b0 b2 hB hB5 hq
  rename_i KT hKT
  have hKT2 : ∀ a w', Code.wp Tryd.prog tailTr (bodyPost Tryd.prog Tryd.f11 (TrRes s w)) a w' → KT a w' := fun a w' h => hKT a w' h
  go_loopw [34] (fun j wr => ∃ k : Nat, k ≤ xs.length ∧ j = .int .i64 k ∧ Blk wr q 33 (cellsT (xs.take k) v) ∧ Below q W5 wr) (fun j _ => xs.length - (intOf j).toNat)
  case atStart => exact ⟨0, by omega, rfl, B2.out, HR.out⟩
  case round =>
    obtain ⟨k, hk, rfl, b2, hbq⟩ := hrel
    clear B2 HR
    by_cases hlt : k < xs.length
    · obtain ⟨g2, rfl, hl2, hc2⟩ := HX.out (by omega)
      have d := (hbq.cell (p := ⟨g2, k, none⟩) (show g2 < q by omega)).trans (hc2 k hlt)
      have hT1 := Lib.hid (take_int hlt)
      have hTL : (xs.take k).length = k := by rw [List.length_take]; omega
      have HTL := Lib.hid hTL
      have hk0 : (0 : Int) ≤ (k : Int) := by omega
      have hk1 : (k : Int) < (xs.length : Int) := by omega
      generalize xs[k]?.getD 0 = x at d hT1
      clear hc2 hTL
      by_cases h9 : k < 9
      · have hk9 : (k : Int) < 9 := by omega
        obtain ⟨n0, e0⟩ := cellsT_some (ms := xs.take k) (v := v) (j := k) (by omega)
        have c0 := (b2.cell k).trans e0
        have f0 := b2.frozen
        have B2 := Lib.hid b2
        have HQ := Lib.hid hbq
        clear b2 hbq e0
        go_wp2
        exact ⟨⟨k + 1, by omega, by simp, by rw [hT1.out, ← cellsT_snoc x HTL.out h9 v]; exact B2.out.set_ k _, HQ.out.setCell (p := ⟨q, k, none⟩) (Nat.le_refl _) _⟩, by simp [intOf]; omega⟩
      · have hk9 : ¬ ((k : Int) < 9) := by omega
        have B2 := Lib.hid b2
        have HQ := Lib.hid hbq
        clear b2 hbq
        go_wp2
        exact ⟨⟨k + 1, by omega, by simp, by rw [hT1.out, cellsT_more x HTL.out h9 v]; exact B2.out, HQ.out⟩, by simp [intOf]; omega⟩
    · obtain rfl : k = xs.length := by omega
      rw [List.take_length] at b2
      have b0 := B0.out.keepB hbq (by omega)
      have hB := HB.out.trans (hbq.mono (by omega))
      have hn4 : ¬ ((xs.length : Int) < (xs.length : Int)) := by omega
      clear HX hbq B0 HB
      have B0 := Lib.hid b0
      clear b0
      repeat (first | (with_reducible refine hKT2 _ _ ?_) | go_values | go_skip | go_guarded | go_step | go_upon | go_back)
      exact trS_tail s w wr q xs v HY.out b2 B0.out hB _ _ _ _ _ _ _ _ _ _ _ _ _ _ _ _ _ _ _ _ _ _ _ _ _ _ _ _ _ _ _ _ _ _ _ _ _ _ _ _ _ _ _ _ _ _ _ _ _ _ _ _ _ _
end Go.Proofs.YtnibknaemgpjdaaDoor
