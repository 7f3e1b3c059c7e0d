/- ParsePatch, of the program and of the reference. -/
import Derived.Test.YtnibknaemgpjdaaDoorPatP
namespace Go.Proofs.YtnibknaemgpjdaaDoor
open Go Go.RowKit Go.Sort

def PatRes (s : ByteArray) (w : World) (e : Ending) (w' : World) : Prop := e = .returned (patV s.data.toList) ∧ Below w.heap.size w w'
theorem pat_mk {s : ByteArray} {w w' : World} {v : Value} (h : patV s.data.toList = v) (hb : Below w.heap.size w w') : PatRes s w (.returned v) w' := ⟨by rw [h], hb⟩
theorem allVecs_bad {ss : List ByteArray} {k : Nat} (hk : k < ss.length) (h : vecOf (ss[k]?.getD ByteArray.empty).data.toList = none) : allVecs (ss.map (·.data.toList)) = none := by
  have e : ss.map (·.data.toList) = ((ss.take k).map (·.data.toList) ++ [(ss[k]?.getD ByteArray.empty).data.toList]) ++ (ss.drop (k + 1)).map (·.data.toList) := by
    rw [← take_strs hk, ← List.map_append, List.take_append_drop]
  rw [e]
  refine allVecs_none ?_
  rw [allVecs_snoc, h]
  cases allVecs ((ss.take k).map (·.data.toList)) <;> rfl
theorem results_row_tmp {P : Program} {fn : Func} {p q : Tmp} {ty : TypeId} (h : fn.results = #[.cell p ty, .tmp q]) (tmps : Array Value) (w : World) (g : Nat) (t : TypeId) (cs : Array Value) (fr : Nat × Nat) (d : TypeDesc)
    (hp : tmps.getD p undef = .pointer (some ⟨g, 0, none⟩)) (hg : w.heap[g]? = some (.cells cs t fr))
    (hu : P.underlying ty = some d) (hd : (match d with | .struct _ | .array _ _ => true | _ => false) = true) (hi : (P.info? ty).map (·.size) = some cs.size) :
    (results fn tmps).run P w = .ok (.tuple #[.agg cs, tmps.getD q undef]) w := by
  have hp' : tmps[p]?.getD undef = .pointer (some ⟨g, 0, none⟩) := by simpa using hp
  simp [results, h, hp', asAddr, run_loadVar_row w g t ty cs fr d hg hu hd hi]
set_option maxRecDepth 100000 in
theorem patI_end {s : ByteArray} {w W : World} {a : Act} {cs : Array Value} {b : Bool} (hb : Blk W w.heap.size 26 cs) (hs : cs.size = 12) (hp : a.tmps.getD 2 undef = .pointer (some ⟨w.heap.size, 0, none⟩))
    (hq : a.tmps.getD 3 undef = .bool b) (hd : a.defers = []) (hv : patV s.data.toList = .tuple #[.agg cs, .bool b]) (hB : Below w.heap.size w W) : bodyPost Tryd.prog Tryd.f9 (PatRes s w) .ret a W :=
  bodyPost_ret (by rw [results_row_tmp rfl a.tmps W w.heap.size 26 cs (0, 0) _ hp hb rfl rfl (by rw [hs]; exact info_patch), hq]) hd (pat_mk hv hB)
set_option maxHeartbeats 4000000 in
set_option maxRecDepth 100000 in
theorem parPatI (s : ByteArray) (hs : s.size ≤ 1048576) (w : World) (hT : Tab w) (hE : Errs w) : Calls Tryd.prog 9 #[.string s] w (PatRes s w) := by
  have hB0 := below1 w (.cells (cells4 []) 26)
  have b00 := Blk.new w 26 (cells4 [])
  have HT := Lib.hid hT
  have HE := Lib.hid hE
  clear hT hE
  go_enter Tryd.func9, Tryd.ntmps9
  rw [cells4_nil] at hB0 b00
  go_wp2_with fail
  generalize w.alloc (.cells #[.int .i64 (0), .int .i64 (0), .int .i64 (0), .int .i64 (0), .int .i64 (0), .int .i64 (0), .int .i64 (0), .int .i64 (0), .int .i64 (0), .int .i64 (0), .int .i64 (0), .int .i64 (0)] 26) = W0 at hB0 b00 ⊢
  refine (splitI2 s ⟨#[32]⟩ W0 hs).mono ?_
  rintro e w1 ⟨vs, rfl, hs1, hk1, hb⟩
  have b01 := Blk.keep hb b00
  have hB1 := b_keep hb hB0
  have hsz0 := hb.size
  have hW0 := b00.lt
  obtain ⟨ss, hss⟩ : ∃ ss, pieces s (sepB ⟨#[32]⟩) = ss := ⟨_, rfl⟩
  have hsp := pieces_split s 32
  have HZ := Lib.hid (pieces_size s (sepB ⟨#[32]⟩))
  have hlen := pieces_len s (sepB ⟨#[32]⟩)
  rw [hss] at hs1 hsp HZ hlen
  have HSP := Lib.hid hsp
  obtain ⟨a, cap, rfl, hcap, hc⟩ := hs1
  clear hb hB0 b00 hss hsp hcap
  by_cases h4 : ss.length = 4
  · obtain ⟨g, rfl, hBg, hlg, hcell0⟩ := hc (by omega)
    obtain ⟨cur, hblk⟩ := hk1 g rfl
    have HC : Hid (∀ i, i < ss.length → cur[i]? = some (.string (ss[i]?.getD ByteArray.empty))) := Lib.hid (fun i hi => by rw [← hblk.cell i]; exact (hcell0 i hi).1)
    have hl4 : ((ss.length : Int) != 4) = false := by simp [h4]
    have b1 := Blk.new w1 26 #[.int .i64 (0), .int .i64 (0), .int .i64 (0), .int .i64 (0), .int .i64 (0), .int .i64 (0), .int .i64 (0), .int .i64 (0), .int .i64 (0), .int .i64 (0), .int .i64 (0), .int .i64 (0)]
    have b0 := b01.alloc (.cells #[.int .i64 (0), .int .i64 (0), .int .i64 (0), .int .i64 (0), .int .i64 (0), .int .i64 (0), .int .i64 (0), .int .i64 (0), .int .i64 (0), .int .i64 (0), .int .i64 (0), .int .i64 (0)] 26)
    have bs := hblk.alloc (.cells #[.int .i64 (0), .int .i64 (0), .int .i64 (0), .int .i64 (0), .int .i64 (0), .int .i64 (0), .int .i64 (0), .int .i64 (0), .int .i64 (0), .int .i64 (0), .int .i64 (0), .int .i64 (0)] 26)
    have hB := hB1.alloc hB1.size (.cells #[.int .i64 (0), .int .i64 (0), .int .i64 (0), .int .i64 (0), .int .i64 (0), .int .i64 (0), .int .i64 (0), .int .i64 (0), .int .i64 (0), .int .i64 (0), .int .i64 (0), .int .i64 (0)] 26)
    have hr1 : w.heap.size < w1.heap.size := b01.lt
    have H4 := Lib.hid h4
    clear hc hcell0 hk1 hblk b01 hB1 h4
    go_wp2_with fail
    obtain ⟨q, hq⟩ : ∃ q, w1.heap.size = q := ⟨_, rfl⟩
    rw [hq] at b1 hlg hr1 ⊢
    generalize w1.alloc (.cells #[.int .i64 (0), .int .i64 (0), .int .i64 (0), .int .i64 (0), .int .i64 (0), .int .i64 (0), .int .i64 (0), .int .i64 (0), .int .i64 (0), .int .i64 (0), .int .i64 (0), .int .i64 (0)] 26) = W1 at b0 b1 bs hB ⊢
    rw [← cells4_nil] at b0 b1
    have B0 := Lib.hid b0
    have B1 := Lib.hid b1
    have BS := Lib.hid bs
    clear b0 b1 bs hq
    go_loopw [19] (fun j wr => ∃ (k : Nat) (us : List V3), k ≤ 4 ∧ j = .int .i64 k ∧ us.length = k ∧ allVecs ((ss.take k).map (·.data.toList)) = some us ∧ Blk wr q 26 (cells4 us) ∧ Blk wr w.heap.size 26 (cells4 []) ∧ Blk wr g 9 cur ∧ Below w.heap.size w wr) (fun j _ => 4 - (intOf j).toNat)
    case atStart => exact ⟨0, [], by omega, rfl, rfl, rfl, B1.out, B0.out, BS.out, hB⟩
    case round =>
      obtain ⟨k, us, hk, rfl, hul, hu, b1, b0, bs, hB⟩ := hrel
      have HU := Lib.hid hu
      have HL := Lib.hid hul
      clear B0 B1 BS hu hul
      by_cases hlt : k < 4
      · have hlt2 : k < ss.length := by rw [H4.out]; exact hlt
        have c1 := (bs.cell k).trans (HC.out k hlt2)
        have hps : (ss[k]?.getD ByteArray.empty).size ≤ 1048576 := Nat.le_trans (piece_at HZ.out) hs
        have HT2 := Lib.hid (take_strs hlt2)
        have HBad : Hid (vecOf (ss[k]?.getD ByteArray.empty).data.toList = none → patOf s.data.toList = none) := Lib.hid (fun h => patOf_bad (by rw [← HSP.out]; exact allVecs_bad hlt2 h))
        have hk0 : (0 : Int) ≤ (k : Int) := by omega
        have hk1 : (k : Int) < (ss.length : Int) := by omega
        have hk4 : (k : Int) < 4 := by omega
        generalize ss[k]?.getD ByteArray.empty = p at c1 hps HT2 HBad
        have HP := Lib.hid (parVecI p hps wr (HT.out.keep hB) (HE.out.keep hB))
        unfold VecPRes at HP
        rw [vecV_vz] at HP
        have B1 := Lib.hid b1
        have B0 := Lib.hid b0
        have BS := Lib.hid bs
        clear b1 b0 bs
        cases hn : vecOf p.data.toList with
        | none =>
          have HN := Lib.hid (patV_none (HBad.out hn))
          rw [hn] at HP
          clear hn
          go_wp2_with fail
          refine HP.out.mono ?_
          rintro e w2 ⟨rfl, hb⟩
          have b0 := Blk.keep hb B0.out
          have hB2 := b_keep hb hB
          have c0 := b0.cell
          have f0 := b0.frozen
          have l0 := b0.lt
          clear hb hB
          rw [cells4_nil] at b0 c0
          go_wp2
          exact patI_end ((blk_row12 b0 rfl _ _ _ _ _ _ _ _ _ _ _ _).alloc _) rfl rfl rfl rfl HN.out ((below_row12 hB2 (Nat.le_refl _) _ _ _ _ _ _ _ _ _ _ _ _).alloc (by simp [World.setCell]; omega) _)
        | some v =>
          rw [hn] at HP
          have HU2 : Hid (allVecs ((ss.take (k + 1)).map (·.data.toList)) = some (us ++ [v])) := Lib.hid (by
            rw [HT2.out, allVecs_snoc, HU.out, hn])
          have HZ2 : Hid (vz p.data.toList = v) := Lib.hid (by unfold vz; rw [hn]; rfl)
          clear hn
          go_wp2_with fail
          refine HP.out.mono ?_
          rintro e w2 ⟨rfl, hb⟩
          rw [HZ2.out]
          have b1 := Blk.keep hb B1.out
          have b0 := Blk.keep hb B0.out
          have bs := Blk.keep hb BS.out
          have hB2 := b_keep hb hB
          have B1 := Lib.hid b1
          have B0 := Lib.hid b0
          have BS := Lib.hid bs
          have l1 := b1.lt
          have f1 := b1.frozen
          obtain ⟨n0, e0⟩ := cells4_some (vs := us) (j := k * 3) (by omega)
          obtain ⟨n1, e1⟩ := cells4_some (vs := us) (j := k * 3 + 1) (by omega)
          obtain ⟨n2, e2⟩ := cells4_some (vs := us) (j := k * 3 + 2) (by omega)
          have d0 := (b1.cell (k * 3)).trans e0
          have d1 := (b1.cell (k * 3 + 1)).trans e1
          have d2 := (b1.cell (k * 3 + 2)).trans e2
          clear hb hB e0 e1 e2 b1 b0 bs
          go_wp2
          exact ⟨⟨k + 1, us ++ [v], by omega, by simp, by rw [List.length_append, HL.out]; rfl, HU2.out, (blk_set3 B1.out v HL.out hlt).alloc _, (blk_far3 B0.out (by omega) _ _ _ _ _ _).alloc _,
            (blk_far3 BS.out (by omega) _ _ _ _ _ _).alloc _, (below_at3 hB2 (by omega) _ _ _ _ _ _).alloc (by simp [World.setCell]; omega) _⟩, by simp [intOf]; omega⟩
      · have hke : k = 4 := by omega
        subst hke
        have hn4 : ¬ ((4 : Int) < (ss.length : Int)) := by rw [H4.out]; decide
        have HV := Lib.hid (patV_some (patOf_ok (by rw [← HSP.out]; rw [List.take_of_length_le (by rw [H4.out]; omega)] at HU; exact HU.out) HL.out))
        have c1 := b1.cell
        unfold cells4 at c1
        have f1 := b1.frozen
        have l1 := b1.lt
        have c0 := b0.cell
        unfold cells4 at c0
        have f0 := b0.frozen
        have l0 := b0.lt
        go_wp2
        exact patI_end (blk_row12 b0 rfl _ _ _ _ _ _ _ _ _ _ _ _) rfl rfl rfl rfl HV.out (below_row12 hB (Nat.le_refl _) _ _ _ _ _ _ _ _ _ _ _ _)
  · have hl4 : ((ss.length : Int) != 4) = true := by simp; omega
    have HN := Lib.hid (patV_none (l := s.data.toList) (patOf_len (by rw [← HSP.out, List.length_map]; exact h4)))
    have c0 := b01.cell
    have f0 := b01.frozen
    have l0 := b01.lt
    go_wp2
    exact patI_end (blk_row12 b01 rfl _ _ _ _ _ _ _ _ _ _ _ _) rfl rfl rfl rfl HN.out (below_row12 hB1 (Nat.le_refl _) _ _ _ _ _ _ _ _ _ _ _ _)
theorem gath_snoc {l : List (List UInt8)} {k : Nat} (hk : l.length = k) (h4 : k < 4) (x : List UInt8) : gath (l ++ [x]) = gath l ++ [vz x] := by
  unfold gath
  rw [List.take_of_length_le (by simp; omega), List.take_of_length_le (by omega), List.map_append]
  rfl
theorem gath_more {l : List (List UInt8)} {k : Nat} (hk : l.length = k) (h4 : ¬ k < 4) (x : List UInt8) : gath (l ++ [x]) = gath l := by
  unfold gath
  rw [List.take_append_of_le_length (by omega)]
theorem gath_len {l : List (List UInt8)} {k : Nat} (hk : l.length = k) (h4 : k < 4) : (gath l).length = k := by
  unfold gath
  rw [List.length_map, List.length_take]; omega
theorem take_len {ss : List ByteArray} {k : Nat} (hk : k < ss.length) : ((ss.take k).map (·.data.toList)).length = k := by
  rw [List.length_map, List.length_take]; omega
set_option maxRecDepth 100000 in
theorem patS_end {s : ByteArray} {w W : World} {a : Act} {cs : Array Value} {b : Bool} (hb : Blk W w.heap.size 26 cs) (hs : cs.size = 12) (hp : a.tmps.getD 2 undef = .pointer (some ⟨w.heap.size, 0, none⟩))
    (hq : a.tmps.getD 3 undef = .bool b) (hd : a.defers = []) (hv : patV s.data.toList = .tuple #[.agg cs, .bool b]) (hB : Below w.heap.size w W) : bodyPost Tryd.prog Tryd.f8 (PatRes s w) .ret a W :=
  bodyPost_ret (by rw [results_row_tmp rfl a.tmps W w.heap.size 26 cs (0, 0) _ hp hb rfl rfl (by rw [hs]; exact info_patch), hq]) hd (pat_mk hv hB)
def TxQRes (us : List V3) (w : World) (e : Ending) (w' : World) : Prop := e = .returned (.string (txQ us)) ∧ Below w.heap.size w w'
theorem fmtQS (us : List V3) (w : World) : Calls Tryd.prog 43 #[.agg (cells4 us)] w (TxQRes us w) := fmtPatchS _ _ _ _ _ _ _ _ _ _ _ _ w
set_option maxHeartbeats 4000000 in
set_option maxRecDepth 100000 in
theorem parPatS (s : ByteArray) (hs : s.size ≤ 1048576) (w : World) : Calls Tryd.prog 8 #[.string s] w (PatRes s w) := by
  have hB0 := below2 w (.cells (cells4 []) 26) (.cells (cells4 []) 26)
  obtain ⟨b00, b10⟩ := blk2 w (cells4 []) (cells4 []) 26 26
  go_enter Tryd.func8, Tryd.ntmps8
  rw [cells4_nil] at hB0 b00 b10
  go_wp2_with fail
  generalize (w.alloc (.cells #[.int .i64 (0), .int .i64 (0), .int .i64 (0), .int .i64 (0), .int .i64 (0), .int .i64 (0), .int .i64 (0), .int .i64 (0), .int .i64 (0), .int .i64 (0), .int .i64 (0), .int .i64 (0)] 26)).alloc (.cells #[.int .i64 (0), .int .i64 (0), .int .i64 (0), .int .i64 (0), .int .i64 (0), .int .i64 (0), .int .i64 (0), .int .i64 (0), .int .i64 (0), .int .i64 (0), .int .i64 (0), .int .i64 (0)] 26) = W0 at hB0 b00 b10 ⊢
  refine (splitS2 s ⟨#[32]⟩ W0 hs (by decide)).mono ?_
  rintro e w1 ⟨vs, rfl, hs1, hk1, hb⟩
  have b01 := Blk.keep hb b00
  have b11 := Blk.keep hb b10
  have hB1 := b_keep hb hB0
  have hW0 := b10.lt
  obtain ⟨ss, hss⟩ : ∃ ss, pieces s (sepB ⟨#[32]⟩) = ss := ⟨_, rfl⟩
  have hsp := pieces_split s 32
  have HZ := Lib.hid (pieces_size s (sepB ⟨#[32]⟩))
  have hlen := pieces_len s (sepB ⟨#[32]⟩)
  rw [hss] at hs1 hsp HZ hlen
  have HSP := Lib.hid hsp
  have hpos : 0 < ss.length := by
    have := congrArg List.length hsp
    rw [List.length_map] at this
    rw [this]
    exact List.length_pos_iff.2 (splitL_ne _ _)
  obtain ⟨a, cap, rfl, hcap, hc⟩ := hs1
  obtain ⟨g, rfl, hBg, hlg, hcell0⟩ := hc hpos
  obtain ⟨cur, hblk⟩ := hk1 g rfl
  have HC : Hid (∀ i, i < ss.length → cur[i]? = some (.string (ss[i]?.getD ByteArray.empty))) := Lib.hid (fun i hi => by rw [← hblk.cell i]; exact (hcell0 i hi).1)
  clear hb hB0 b00 b10 hss hsp hcap hc hcell0 hk1 hpos
  obtain ⟨q, hq⟩ : ∃ q, w.heap.size + 1 = q := ⟨_, rfl⟩
  rw [hq] at b11 hW0 ⊢
  rw [← cells4_nil] at b01 b11
  have hgq : q < g := by omega
  have hwq : w.heap.size < q := by omega
  have B0 := Lib.hid b01
  have B1 := Lib.hid b11
  have BS := Lib.hid hblk
  have HB := Lib.hid hB1
  clear b01 b11 hblk hq hB1
  go_wp2_with fail
  go_loopw [11] (fun j wr => ∃ k : Nat, k ≤ ss.length ∧ j = .int .i64 k ∧ Blk wr q 26 (cells4 (gath ((ss.take k).map (·.data.toList)))) ∧ Blk wr w.heap.size 26 (cells4 []) ∧ Blk wr g 9 cur ∧ Below w.heap.size w wr) (fun j _ => ss.length - (intOf j).toNat)
  case atStart => exact ⟨0, by omega, rfl, B1.out, B0.out, BS.out, HB.out⟩
  case round =>
    obtain ⟨k, hk, rfl, b1, b0, bs, hB⟩ := hrel
    clear B0 B1 BS HB
    by_cases hlt : k < ss.length
    · have c1 := (bs.cell k).trans (HC.out k hlt)
      have hps : (ss[k]?.getD ByteArray.empty).size ≤ 1048576 := Nat.le_trans (piece_at HZ.out) hs
      have HT2 := Lib.hid (take_strs hlt)
      have HTL := Lib.hid (take_len hlt)
      have hk0 : (0 : Int) ≤ (k : Int) := by omega
      have hk1 : (k : Int) < (ss.length : Int) := by omega
      generalize ss[k]?.getD ByteArray.empty = p at c1 hps HT2
      by_cases h4 : k < 4
      · have hk4 : (k : Int) < 4 := by omega
        have HL := Lib.hid (gath_len HTL.out h4)
        have HG := Lib.hid (gath_snoc HTL.out h4 p.data.toList)
        rw [← HT2.out] at HG
        have HP := Lib.hid (parVecS p hps wr)
        unfold VecPRes at HP
        rw [vecV_vz] at HP
        generalize gath ((ss.take k).map (·.data.toList)) = us at b1 HL HG
        have B1 := Lib.hid b1
        have B0 := Lib.hid b0
        have BS := Lib.hid bs
        clear b1 b0 bs
        go_wp2_with fail
        refine HP.out.mono ?_
        rintro e w2 ⟨rfl, hb⟩
        have b1 := Blk.keep hb B1.out
        have b0 := Blk.keep hb B0.out
        have bs := Blk.keep hb BS.out
        have hB2 := b_keep hb hB
        have B1 := Lib.hid b1
        have B0 := Lib.hid b0
        have BS := Lib.hid bs
        have l1 := b1.lt
        have f1 := b1.frozen
        obtain ⟨n0, e0⟩ := cells4_some (vs := us) (j := k * 3) (by omega)
        obtain ⟨n1, e1⟩ := cells4_some (vs := us) (j := k * 3 + 1) (by omega)
        obtain ⟨n2, e2⟩ := cells4_some (vs := us) (j := k * 3 + 2) (by omega)
        have d0 := (b1.cell (k * 3)).trans e0
        have d1 := (b1.cell (k * 3 + 1)).trans e1
        have d2 := (b1.cell (k * 3 + 2)).trans e2
        generalize vz p.data.toList = v at HG ⊢
        clear hb hB e0 e1 e2 b1 b0 bs HP
        go_wp2
        exact ⟨⟨k + 1, by omega, by simp, by rw [HG.out]; exact blk_set3 B1.out v HL.out h4, blk_far3 B0.out (by omega) _ _ _ _ _ _,
          blk_far3 BS.out (by omega) _ _ _ _ _ _, below_at3 hB2 (by omega) _ _ _ _ _ _⟩, by simp [intOf]; omega⟩
      · have hk4 : ¬ ((k : Int) < 4) := by omega
        have HG := Lib.hid (gath_more HTL.out h4 p.data.toList)
        rw [← HT2.out] at HG
        have B1 := Lib.hid b1
        have B0 := Lib.hid b0
        have BS := Lib.hid bs
        clear b1 b0 bs
        go_wp2
        exact ⟨⟨k + 1, by omega, by simp, by rw [HG.out]; exact B1.out, B0.out, BS.out, hB⟩, by simp [intOf]; omega⟩
    · have hke : k = ss.length := by omega
      subst hke
      have HT : Hid ((ss.take ss.length).map (·.data.toList) = splitL (fun c => c == 32) s.data.toList) := Lib.hid (by rw [List.take_length]; exact HSP.out)
      rw [HT.out] at b1
      have hn4 : ¬ ((ss.length : Int) < (ss.length : Int)) := by omega
      have B0 := Lib.hid b0
      clear b0 bs
      cases hp : patOf s.data.toList with
      | some vs =>
        obtain ⟨e1, e2, he⟩ := pat_yes hp
        have HV := Lib.hid (patV_some hp)
        rw [e1] at b1
        have HF := Lib.hid (fun wx => fmtQS vs wx)
        unfold TxQRes at HF
        rw [e2] at HF
        have b1' := b1
        unfold cells4 at HF b1
        have B1 := Lib.hid b1
        have c1 := b1.cell
        have f1 := b1.frozen
        have l1 := b1.lt
        clear e1 e2 hp b1
        go_wp2_with fail
        refine (HF.out wr).mono ?_
        rintro e w2 ⟨rfl, hb⟩
        have b1 := Blk.keep hb B1.out
        have b0 := Blk.keep hb B0.out
        have hB2 := b_keep hb hB
        have B1 := Lib.hid b1
        have B0 := Lib.hid b0
        replace c1 := b1.cell
        replace f1 := b1.frozen
        replace l1 := b1.lt
        clear hb hB b1 b0 b1'
        go_wp2_with fail
        refine (HF.out w2).mono ?_
        rintro e w3 ⟨rfl, hb⟩
        have b1 := Blk.keep hb B1.out
        have b0 := Blk.keep hb B0.out
        have hB3 := b_keep hb hB2
        replace c1 := b1.cell
        replace f1 := b1.frozen
        replace l1 := b1.lt
        have c0 := b0.cell
        have f0 := b0.frozen
        have l0 := b0.lt
        clear hb hB2
        unfold cells4 at c0
        go_wp2
        exact patS_end (blk_row12 b0 rfl _ _ _ _ _ _ _ _ _ _ _ _) rfl rfl rfl rfl HV.out (below_row12 hB3 (Nat.le_refl _) _ _ _ _ _ _ _ _ _ _ _ _)
      | none =>
        have hno := pat_no hp
        have HV := Lib.hid (patV_none hp)
        generalize gath (splitL (fun c => c == 32) s.data.toList) = us at b1 hno
        have HF := Lib.hid (fun wx => fmtQS us wx)
        unfold TxQRes at HF
        generalize txQ us = t at HF hno
        unfold cells4 at HF b1
        have B1 := Lib.hid b1
        have c1 := b1.cell
        have f1 := b1.frozen
        have l1 := b1.lt
        clear hp b1
        cases he : t.toList.isEmpty with
        | true =>
          clear hno
          go_wp2_with fail
          refine (HF.out wr).mono ?_
          rintro e w2 ⟨rfl, hb⟩
          have b0 := Blk.keep hb B0.out
          have hB3 := b_keep hb hB
          have c0 := b0.cell
          have f0 := b0.frozen
          have l0 := b0.lt
          clear hb hB
          unfold cells4 at c0
          go_wp2
          exact patS_end (blk_row12 b0 rfl _ _ _ _ _ _ _ _ _ _ _ _) rfl rfl rfl rfl HV.out (below_row12 hB3 (Nat.le_refl _) _ _ _ _ _ _ _ _ _ _ _ _)
        | false =>
          have hne : (t.toList == s.toList) = false := by
            rcases hno with h | h
            · rw [he] at h; cases h
            · exact h
          clear hno
          go_wp2_with fail
          refine (HF.out wr).mono ?_
          rintro e w2 ⟨rfl, hb⟩
          have b1 := Blk.keep hb B1.out
          have b0 := Blk.keep hb B0.out
          have hB2 := b_keep hb hB
          have B1 := Lib.hid b1
          have B0 := Lib.hid b0
          replace c1 := b1.cell
          replace f1 := b1.frozen
          replace l1 := b1.lt
          clear hb hB b1 b0
          go_wp2_with fail
          refine (HF.out w2).mono ?_
          rintro e w3 ⟨rfl, hb⟩
          have b0 := Blk.keep hb B0.out
          have hB3 := b_keep hb hB2
          have c0 := b0.cell
          have f0 := b0.frozen
          have l0 := b0.lt
          clear hb hB2
          unfold cells4 at c0
          go_wp2
          exact patS_end (blk_row12 b0 rfl _ _ _ _ _ _ _ _ _ _ _ _) rfl rfl rfl rfl HV.out (below_row12 hB3 (Nat.le_refl _) _ _ _ _ _ _ _ _ _ _ _ _)
end Go.Proofs.YtnibknaemgpjdaaDoor
