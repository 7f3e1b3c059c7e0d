/- OpenB, CurP, EvI, Edge, PBnd, PatM, LawPatches in one text. -/
import Derived.Test.YtnibknaemgpjdaaDoorFrame
import Derived.Test.YtnibknaemgpjdaaDoorCur
import Derived.ProofKit
import Derived.SizedLaws
import Derived.Test.YtnibknaemgpjdaaDoorCur2
import Derived.Test.YtnibknaemgpjdaaDoorPatB
import Derived.Test.YtnibknaemgpjdaaDoorEv0
import Derived.Test.YtnibknaemgpjdaaDoorLerp
import Derived.Test.YtnibknaemgpjdaaDoorBndI
import Derived.Test.YtnibknaemgpjdaaDoorBaseL5
import Derived.Test.YtnibknaemgpjdaaDoorParP
import Derived.Test.YtnibknaemgpjdaaDoorBox
import Derived.ChangeKeysEq
-- from OpenB
namespace Go.Proofs.YtnibknaemgpjdaaDoor
open Go.ChangeShapes Go.WideShapes Go.ChangeAt Go.RowKit

theorem open_bytes {H : Type} {enc : TypeId × Value → H} {P : Program} {W : World} {base t e : Nat} {v : Value} {d : DataW H} {p : List MemPlace} (ht : P.underlying t = some (.slice e)) (he : P.underlying e = some (.int .u8)) (hC : P.cellsOf e = 1)
    (hv : Value.okWide P W .any base t v) (hd : DataW.Trod enc P W 0 (fun _ => true) true t v d p) : ∃ (n : Nat) (bs : Nat → Int), BytesAt W W.heap.size v n bs ∧ n ≤ maxLen := by
  obtain ⟨a, len, cap, rfl⟩ := okWide_slice ht hv
  obtain ⟨fuel, hf⟩ := hd
  rcases open_ints ht he hC hf with ⟨hcs, _⟩ | ⟨x, l, c, zs, hcs, _, hl, hm, hz, _, hcell, hwz⟩
  · simp [Value.cells] at hcs
    obtain ⟨rfl, rfl, rfl⟩ := hcs
    exact ⟨0, fun _ => 0, ⟨fun _ => ⟨by simp, by simp⟩, none, 0, rfl, fun h => absurd h (by omega)⟩, by simp⟩
  · simp [Value.cells] at hcs
    obtain ⟨rfl, rfl, rfl⟩ := hcs
    rw [if_pos rfl] at hz
    refine ⟨len, fun i => zs.getD i 0, ⟨fun i => ?_, some x, _, rfl, fun h0 => ?_⟩, by omega⟩
    · by_cases hi : i < zs.length
      · have hmem : zs.getD i 0 ∈ zs := by
          rw [List.getD_eq_getElem?_getD, List.getElem?_eq_getElem hi]
          exact List.getElem_mem hi
        have := hwz _ hmem
        simp [Lit.wf, IntKind.min, IntKind.max, IntKind.signed, IntKind.bits] at this
        simp only [List.getD_eq_getElem?_getD]
        omega
      · have : zs.getD i 0 = 0 := by rw [List.getD_eq_getElem?_getD, List.getElem?_eq_none (by omega)]; rfl
        simp only [this]
        omega
    · obtain ⟨b, off, spot⟩ := x
      have hc0 := hcell 0 (by omega)
      have hspot : spot = none := by simpa [Addr.add] using World.cell?_spot hc0
      subst hspot
      refine ⟨b, off, rfl, ?_, fun i hi => ?_⟩
      · have := World.block_lt_of_cell? W _ hc0
        simpa [Addr.add] using this
      · have h := hcell i (by omega)
        have ha : Addr.add ⟨b, off, none⟩ i = ⟨b, off + i, none⟩ := by
          unfold Addr.add
          split
          · rename_i h0'; rw [h0', Nat.add_zero]
          · rfl
        rw [ha] at h
        exact h
end Go.Proofs.YtnibknaemgpjdaaDoor

-- from CurP
namespace Go.Proofs.YtnibknaemgpjdaaDoor
open Go Go.RowKit

theorem Cur.at3 {w : World} {B g : Nat} {v : Value} {n : Nat} {bs : Nat → Int} (h : Cur w B g v n bs) {q : Nat} (hk : g < q) (i j k : Nat) (a b c : Value) :
    Cur (((w.setCell ⟨q, i, none⟩ a).setCell ⟨q, j, none⟩ b).setCell ⟨q, k, none⟩ c) B g v n bs := by
  obtain ⟨h1, h2, m, x, h3, h4, h5⟩ := h
  exact ⟨h1, h2.keep (below_at3 (Below.refl B w) (by omega) i j k a b c), m, x, h3, h4, blk_far3 h5 (by omega) i j k a b c⟩
theorem Cur.row12 {w : World} {B g : Nat} {v : Value} {n : Nat} {bs : Nat → Int} (h : Cur w B g v n bs) {q : Nat} (hk : g < q) (x0 x1 x2 x3 x4 x5 x6 x7 x8 x9 x10 x11 : Value) :
    Cur (((((((((((((w.setCell ⟨q, 0, none⟩ x0).setCell ⟨q, 1, none⟩ x1).setCell ⟨q, 2, none⟩ x2).setCell ⟨q, 3, none⟩ x3).setCell ⟨q, 4, none⟩ x4).setCell ⟨q, 5, none⟩ x5).setCell ⟨q, 6, none⟩ x6).setCell ⟨q, 7, none⟩ x7).setCell ⟨q, 8, none⟩ x8).setCell ⟨q, 9, none⟩ x9).setCell ⟨q, 10, none⟩ x10).setCell ⟨q, 11, none⟩ x11)) B g v n bs := by
  obtain ⟨h1, h2, m, x, h3, h4, h5⟩ := h
  exact ⟨h1, h2.keep (below_row12 (Below.refl B w) (by omega) x0 x1 x2 x3 x4 x5 x6 x7 x8 x9 x10 x11), m, x, h3, h4, ((((((((((((h5.far (p := ⟨q, 0, none⟩) (show g ≠ q by omega) x0).far (p := ⟨q, 1, none⟩) (show g ≠ q by omega) x1).far (p := ⟨q, 2, none⟩) (show g ≠ q by omega) x2).far (p := ⟨q, 3, none⟩) (show g ≠ q by omega) x3).far (p := ⟨q, 4, none⟩) (show g ≠ q by omega) x4).far (p := ⟨q, 5, none⟩) (show g ≠ q by omega) x5).far (p := ⟨q, 6, none⟩) (show g ≠ q by omega) x6).far (p := ⟨q, 7, none⟩) (show g ≠ q by omega) x7).far (p := ⟨q, 8, none⟩) (show g ≠ q by omega) x8).far (p := ⟨q, 9, none⟩) (show g ≠ q by omega) x9).far (p := ⟨q, 10, none⟩) (show g ≠ q by omega) x10).far (p := ⟨q, 11, none⟩) (show g ≠ q by omega) x11)⟩
theorem Turn.at3 {g : Nat} {a w : World} (h : Turn g a w) {q : Nat} (hp : a.heap.size ≤ q) (i j k : Nat) (x y z : Value) :
    Turn g a (((w.setCell ⟨q, i, none⟩ x).setCell ⟨q, j, none⟩ y).setCell ⟨q, k, none⟩ z) :=
  ((h.new_ (p := ⟨q, i, none⟩) hp x).new_ (p := ⟨q, j, none⟩) hp y).new_ (p := ⟨q, k, none⟩) hp z
theorem Turn.row12 {g : Nat} {a w : World} (h : Turn g a w) {q : Nat} (hp : a.heap.size ≤ q) (x0 x1 x2 x3 x4 x5 x6 x7 x8 x9 x10 x11 : Value) :
    Turn g a (((((((((((((w.setCell ⟨q, 0, none⟩ x0).setCell ⟨q, 1, none⟩ x1).setCell ⟨q, 2, none⟩ x2).setCell ⟨q, 3, none⟩ x3).setCell ⟨q, 4, none⟩ x4).setCell ⟨q, 5, none⟩ x5).setCell ⟨q, 6, none⟩ x6).setCell ⟨q, 7, none⟩ x7).setCell ⟨q, 8, none⟩ x8).setCell ⟨q, 9, none⟩ x9).setCell ⟨q, 10, none⟩ x10).setCell ⟨q, 11, none⟩ x11)) :=
  ((((((((((((h.new_ (p := ⟨q, 0, none⟩) hp x0).new_ (p := ⟨q, 1, none⟩) hp x1).new_ (p := ⟨q, 2, none⟩) hp x2).new_ (p := ⟨q, 3, none⟩) hp x3).new_ (p := ⟨q, 4, none⟩) hp x4).new_ (p := ⟨q, 5, none⟩) hp x5).new_ (p := ⟨q, 6, none⟩) hp x6).new_ (p := ⟨q, 7, none⟩) hp x7).new_ (p := ⟨q, 8, none⟩) hp x8).new_ (p := ⟨q, 9, none⟩) hp x9).new_ (p := ⟨q, 10, none⟩) hp x10).new_ (p := ⟨q, 11, none⟩) hp x11)
theorem smv_snoc {us : List V3} {v : V3} (h : ∀ u ∈ us, SmV u) (hv : SmV v) : ∀ u ∈ us ++ [v], SmV u := fun u hu => by
  rcases List.mem_append.1 hu with h1 | h1
  · exact h u h1
  · obtain rfl := List.mem_singleton.1 h1
    exact hv
theorem results_row {P : Program} {fn : Func} {p : Tmp} {ty : TypeId} (h : fn.results = #[.cell p ty]) (tmps : Array Value) (w : World) (g : Nat) (t : TypeId) (cs : Array Value) (d : TypeDesc)
    (hp : tmps.getD p undef = .pointer (some ⟨g, 0, none⟩)) (hg : Blk w g t cs)
    (hu : P.underlying ty = some d) (hd : (match d with | .struct _ | .array _ _ => true | _ => false) = true) (hi : (P.info? ty).map (·.size) = some cs.size) :
    (results fn tmps).run P w = .ok (.agg cs) w := results_cell_row h tmps w g t cs (0, 0) d hp hg hu hd hi
def GivesP (B g : Nat) (v : Value) (n : Nat) (bs : Nat → Int) (w : World) (e : Ending) (w' : World) : Prop :=
  ∃ us : List V3, e = .returned (.agg (cells4 us)) ∧ us.length = 4 ∧ (∀ u ∈ us, SmV u) ∧ Cur w' B g v n bs ∧ Turn g w w'
set_option maxRecDepth 100000 in
theorem draw5_end {w W : World} {B g : Nat} {v : Value} {n : Nat} {bs : Nat → Int} {a : Act} {us : List V3} (hb : Blk W w.heap.size 26 (cells4 us)) (hp : a.tmps.getD 2 undef = .pointer (some ⟨w.heap.size, 0, none⟩))
    (hd : a.defers = []) (hl : us.length = 4) (hs : ∀ u ∈ us, SmV u) (hC : Cur W B g v n bs) (hT : Turn g w W) : bodyPost Tryd.prog Tryd.f72 (GivesP B g v n bs w) .ret a W :=
  bodyPost_ret (results_row rfl a.tmps W w.heap.size 26 (cells4 us) _ hp hb rfl rfl info_patch) hd ⟨us, rfl, hl, hs, hC, hT⟩
set_option maxHeartbeats 8000000 in
set_option maxRecDepth 100000 in
theorem draw5_any (w : World) (B g : Nat) (v : Value) (n : Nat) (bs : Nat → Int) (h : Cur w B g v n bs) :
    Calls Tryd.prog 72 #[.pointer (some ⟨g, 0, none⟩)] w (GivesP B g v n bs w) := by
  have hgl := h.lt
  obtain ⟨b0, b1⟩ := blk2 w (cells4 []) (cells4 []) 26 26
  have hC := (h.keep (below1 w (.cells (cells4 []) 26))).keep (below1 _ (.cells (cells4 []) 26))
  have hT : Turn g w ((w.alloc (.cells (cells4 []) 26)).alloc (.cells (cells4 []) 26)) := ((Turn.refl g w).alloc _).alloc _
  clear h
  go_enter Tryd.func72, Tryd.ntmps72
  rw [cells4_nil] at b0 b1 hC hT
  go_wp2_with fail
  generalize (w.alloc (.cells #[.int .i64 (0), .int .i64 (0), .int .i64 (0), .int .i64 (0), .int .i64 (0), .int .i64 (0), .int .i64 (0), .int .i64 (0), .int .i64 (0), .int .i64 (0), .int .i64 (0), .int .i64 (0)] 26)).alloc (.cells #[.int .i64 (0), .int .i64 (0), .int .i64 (0), .int .i64 (0), .int .i64 (0), .int .i64 (0), .int .i64 (0), .int .i64 (0), .int .i64 (0), .int .i64 (0), .int .i64 (0), .int .i64 (0)] 26) = W0 at b0 b1 hC hT ⊢
  rw [← cells4_nil] at b0 b1
  have hq0 : w.heap.size < w.heap.size + 1 := by omega
  generalize w.heap.size + 1 = q at b1 hq0 ⊢
  refine (below_any 160 _ _ _ _ _ _ (by omega) (by omega) hC).mono ?_
  rintro e w1 ⟨x, rfl, x0, x1, hC1, hT1⟩
  replace b0 := b0.turn hT1 (by omega)
  replace b1 := b1.turn hT1 (by omega)
  replace hT := hT.trans hT1
  clear hT1 hC
  go_wp2_with fail
  refine (below_any 160 _ _ _ _ _ _ (by omega) (by omega) hC1).mono ?_
  rintro e w2 ⟨y, rfl, y0, y1, hC2, hT1⟩
  replace b0 := b0.turn hT1 (by omega)
  replace b1 := b1.turn hT1 (by omega)
  replace hT := hT.trans hT1
  clear hT1 hC1
  go_wp2_with fail
  refine (below_any 200 _ _ _ _ _ _ (by omega) (by omega) hC2).mono ?_
  rintro e w3 ⟨z, rfl, z0, z1, hC3, hT1⟩
  replace b0 := b0.turn hT1 (by omega)
  replace b1 := b1.turn hT1 (by omega)
  replace hT := hT.trans hT1
  clear hT1 hC2
  have B0 := Lib.hid b0
  have B1 := Lib.hid b1
  have HC := Lib.hid hC3
  have HT := Lib.hid hT
  clear b0 b1 hC3 hT
  go_wp2_with fail
  go_loopw [18] (fun j wr => ∃ (k : Nat) (us : List V3), k ≤ 4 ∧ j = .int .i64 k ∧ us.length = k ∧ (∀ u ∈ us, SmV u) ∧ Blk wr q 26 (cells4 us) ∧ Blk wr w.heap.size 26 (cells4 []) ∧ Cur wr B g v n bs ∧ Turn g w wr) (fun j _ => 4 - (intOf j).toNat)
  case atStart => exact ⟨0, [], by omega, rfl, rfl, by simp, B1.out, B0.out, HC.out, HT.out⟩
  case round =>
    obtain ⟨k, us, hk, rfl, hul, hsm, b1, b0, hC, hT⟩ := hrel
    have HL := Lib.hid hul
    have HSM := Lib.hid hsm
    clear B0 B1 HC HT hul hsm
    by_cases hlt : k < 4
    · obtain ⟨n0, e0⟩ := cells4_some (vs := us) (j := k * 3) (by omega)
      obtain ⟨n1, e1⟩ := cells4_some (vs := us) (j := k * 3 + 1) (by omega)
      obtain ⟨n2, e2⟩ := cells4_some (vs := us) (j := k * 3 + 2) (by omega)
      have E0 := Lib.hid e0
      have E1 := Lib.hid e1
      have E2 := Lib.hid e2
      have HH := Lib.hid hT
      clear e0 e1 e2 hT
      rcases (by omega : k = 0 ∨ k = 1 ∨ k = 2 ∨ k = 3) with rfl | rfl | rfl | rfl
      · go_wp2_with fail
        refine (below_any 60 _ _ _ _ _ _ (by omega) (by omega) hC).mono ?_
        rintro e w1' ⟨r, rfl, r0, r1, hC1, hT1⟩
        replace b0 := b0.turn hT1 (by omega)
        replace b1 := b1.turn hT1 (by omega)
        have HH := Lib.hid (HH.out.trans hT1)
        clear hT1 hC
        go_wp2_with fail
        refine (below_any 60 _ _ _ _ _ _ (by omega) (by omega) hC1).mono ?_
        rintro e w2' ⟨s, rfl, s0, s1, hC2, hT1⟩
        replace b0 := b0.turn hT1 (by omega)
        replace b1 := b1.turn hT1 (by omega)
        have HH := Lib.hid (HH.out.trans hT1)
        clear hT1 hC1
        go_wp2_with fail
        refine (below_any 30 _ _ _ _ _ _ (by omega) (by omega) hC2).mono ?_
        rintro e w3' ⟨t, rfl, t0, t1, hC3, hT1⟩
        replace b0 := b0.turn hT1 (by omega)
        replace b1 := b1.turn hT1 (by omega)
        have HH := Lib.hid (HH.out.trans hT1)
        clear hT1 hC2
        have B1 := Lib.hid b1
        have B0 := Lib.hid b0
        have HC := Lib.hid hC3
        have l1 := b1.lt
        have f1 := b1.frozen
        have d0 := (b1.cell 0).trans E0.out
        have d1 := (b1.cell 1).trans E1.out
        have d2 := (b1.cell 2).trans E2.out
        clear b1 b0 hC3
        go_wp2
        exact ⟨⟨1, us ++ [(x - 80, y - 80, 60 + z + t)], by omega, by go_num, by rw [List.length_append, HL.out]; rfl, smv_snoc HSM.out (by unfold SmV; dsimp only; omega), blk_set3 (k := 0) B1.out (x - 80, y - 80, 60 + z + t) HL.out (by omega), blk_far3 B0.out (by omega) _ _ _ _ _ _,
          HC.out.at3 (by omega) _ _ _ _ _ _, HH.out.at3 (by omega) _ _ _ _ _ _⟩, by simp [intOf]⟩
      · go_wp2_with fail
        refine (below_any 60 _ _ _ _ _ _ (by omega) (by omega) hC).mono ?_
        rintro e w1' ⟨r, rfl, r0, r1, hC1, hT1⟩
        replace b0 := b0.turn hT1 (by omega)
        replace b1 := b1.turn hT1 (by omega)
        have HH := Lib.hid (HH.out.trans hT1)
        clear hT1 hC
        go_wp2_with fail
        refine (below_any 60 _ _ _ _ _ _ (by omega) (by omega) hC1).mono ?_
        rintro e w2' ⟨s, rfl, s0, s1, hC2, hT1⟩
        replace b0 := b0.turn hT1 (by omega)
        replace b1 := b1.turn hT1 (by omega)
        have HH := Lib.hid (HH.out.trans hT1)
        clear hT1 hC1
        go_wp2_with fail
        refine (below_any 30 _ _ _ _ _ _ (by omega) (by omega) hC2).mono ?_
        rintro e w3' ⟨t, rfl, t0, t1, hC3, hT1⟩
        replace b0 := b0.turn hT1 (by omega)
        replace b1 := b1.turn hT1 (by omega)
        have HH := Lib.hid (HH.out.trans hT1)
        clear hT1 hC2
        have B1 := Lib.hid b1
        have B0 := Lib.hid b0
        have HC := Lib.hid hC3
        have l1 := b1.lt
        have f1 := b1.frozen
        have d0 := (b1.cell 3).trans E0.out
        have d1 := (b1.cell 4).trans E1.out
        have d2 := (b1.cell 5).trans E2.out
        clear b1 b0 hC3
        go_wp2
        exact ⟨⟨2, us ++ [(x - 80 + (20 + r), y - 80, 60 + z + t)], by omega, by go_num, by rw [List.length_append, HL.out]; rfl, smv_snoc HSM.out (by unfold SmV; dsimp only; omega), blk_set3 (k := 1) B1.out (x - 80 + (20 + r), y - 80, 60 + z + t) HL.out (by omega), blk_far3 B0.out (by omega) _ _ _ _ _ _,
          HC.out.at3 (by omega) _ _ _ _ _ _, HH.out.at3 (by omega) _ _ _ _ _ _⟩, by simp [intOf]⟩
      · go_wp2_with fail
        refine (below_any 60 _ _ _ _ _ _ (by omega) (by omega) hC).mono ?_
        rintro e w1' ⟨r, rfl, r0, r1, hC1, hT1⟩
        replace b0 := b0.turn hT1 (by omega)
        replace b1 := b1.turn hT1 (by omega)
        have HH := Lib.hid (HH.out.trans hT1)
        clear hT1 hC
        go_wp2_with fail
        refine (below_any 60 _ _ _ _ _ _ (by omega) (by omega) hC1).mono ?_
        rintro e w2' ⟨s, rfl, s0, s1, hC2, hT1⟩
        replace b0 := b0.turn hT1 (by omega)
        replace b1 := b1.turn hT1 (by omega)
        have HH := Lib.hid (HH.out.trans hT1)
        clear hT1 hC1
        go_wp2_with fail
        refine (below_any 30 _ _ _ _ _ _ (by omega) (by omega) hC2).mono ?_
        rintro e w3' ⟨t, rfl, t0, t1, hC3, hT1⟩
        replace b0 := b0.turn hT1 (by omega)
        replace b1 := b1.turn hT1 (by omega)
        have HH := Lib.hid (HH.out.trans hT1)
        clear hT1 hC2
        have B1 := Lib.hid b1
        have B0 := Lib.hid b0
        have HC := Lib.hid hC3
        have l1 := b1.lt
        have f1 := b1.frozen
        have d0 := (b1.cell 6).trans E0.out
        have d1 := (b1.cell 7).trans E1.out
        have d2 := (b1.cell 8).trans E2.out
        clear b1 b0 hC3
        go_wp2
        exact ⟨⟨3, us ++ [(x - 80, y - 80 + (20 + s), 60 + z + t)], by omega, by go_num, by rw [List.length_append, HL.out]; rfl, smv_snoc HSM.out (by unfold SmV; dsimp only; omega), blk_set3 (k := 2) B1.out (x - 80, y - 80 + (20 + s), 60 + z + t) HL.out (by omega), blk_far3 B0.out (by omega) _ _ _ _ _ _,
          HC.out.at3 (by omega) _ _ _ _ _ _, HH.out.at3 (by omega) _ _ _ _ _ _⟩, by simp [intOf]⟩
      · go_wp2_with fail
        refine (below_any 60 _ _ _ _ _ _ (by omega) (by omega) hC).mono ?_
        rintro e w1' ⟨r, rfl, r0, r1, hC1, hT1⟩
        replace b0 := b0.turn hT1 (by omega)
        replace b1 := b1.turn hT1 (by omega)
        have HH := Lib.hid (HH.out.trans hT1)
        clear hT1 hC
        go_wp2_with fail
        refine (below_any 60 _ _ _ _ _ _ (by omega) (by omega) hC1).mono ?_
        rintro e w2' ⟨s, rfl, s0, s1, hC2, hT1⟩
        replace b0 := b0.turn hT1 (by omega)
        replace b1 := b1.turn hT1 (by omega)
        have HH := Lib.hid (HH.out.trans hT1)
        clear hT1 hC1
        go_wp2_with fail
        refine (below_any 30 _ _ _ _ _ _ (by omega) (by omega) hC2).mono ?_
        rintro e w3' ⟨t, rfl, t0, t1, hC3, hT1⟩
        replace b0 := b0.turn hT1 (by omega)
        replace b1 := b1.turn hT1 (by omega)
        have HH := Lib.hid (HH.out.trans hT1)
        clear hT1 hC2
        have B1 := Lib.hid b1
        have B0 := Lib.hid b0
        have HC := Lib.hid hC3
        have l1 := b1.lt
        have f1 := b1.frozen
        have d0 := (b1.cell 9).trans E0.out
        have d1 := (b1.cell 10).trans E1.out
        have d2 := (b1.cell 11).trans E2.out
        clear b1 b0 hC3
        go_wp2
        exact ⟨⟨4, us ++ [(x - 80 + (20 + r), y - 80 + (20 + s), 60 + z + t)], by omega, by go_num, by rw [List.length_append, HL.out]; rfl, smv_snoc HSM.out (by unfold SmV; dsimp only; omega), blk_set3 (k := 3) B1.out (x - 80 + (20 + r), y - 80 + (20 + s), 60 + z + t) HL.out (by omega), blk_far3 B0.out (by omega) _ _ _ _ _ _,
          HC.out.at3 (by omega) _ _ _ _ _ _, HH.out.at3 (by omega) _ _ _ _ _ _⟩, by simp [intOf]⟩
    · have hke : k = 4 := by omega
      subst hke
      have c1 := b1.cell
      unfold cells4 at c1
      have f1 := b1.frozen
      have l1 := b1.lt
      have c0 := b0.cell
      unfold cells4 at c0
      have f0 := b0.frozen
      have l0 := b0.lt
      have B0 := Lib.hid b0
      have HC := Lib.hid hC
      have HH := Lib.hid hT
      clear b0 b1 hC hT
      go_wp2
      exact draw5_end (us := us) (blk_row12 B0.out rfl _ _ _ _ _ _ _ _ _ _ _ _) rfl rfl HL.out HSM.out (HC.out.row12 (by omega) _ _ _ _ _ _ _ _ _ _ _ _) (HH.out.row12 (Nat.le_refl _) _ _ _ _ _ _ _ _ _ _ _ _)
def GivesPB (w : World) (r : Ending) (w' : World) : Prop := ∃ us : List V3, r = .returned (.agg (cells4 us)) ∧ us.length = 4 ∧ (∀ u ∈ us, SmV u) ∧ Below w.heap.size w w'
set_option maxRecDepth 100000 in
theorem makeP_end {w W : World} {a : Act} {us : List V3} (hb : Blk W w.heap.size 26 (cells4 us)) (hp : a.tmps.getD 4 undef = .pointer (some ⟨w.heap.size, 0, none⟩))
    (hd : a.defers = []) (hl : us.length = 4) (hs : ∀ u ∈ us, SmV u) (hB : Below w.heap.size w W) : bodyPost Tryd.prog Tryd.f35 (GivesPB w) .ret a W :=
  bodyPost_ret (results_row rfl a.tmps W w.heap.size 26 (cells4 us) _ hp hb rfl rfl info_patch) hd ⟨us, rfl, hl, hs, hB⟩
set_option maxHeartbeats 4000000 in
set_option maxRecDepth 100000 in
theorem makePatch_any (m : Int) (w : World) (B : Nat) (v : Value) (n : Nat) (bs : Nat → Int) (hm0 : 0 ≤ m) (hm1 : m ≤ 10) (hB : B ≤ w.heap.size) (hn : n ≤ 1048576) (h : BytesAt w B v n bs) :
    Calls Tryd.prog 35 #[v, .int .i64 m] w (GivesPB w) := by
  have hb0 := below1 w (.cells (cells4 []) 26)
  have b0 := Blk.new w 26 (cells4 [])
  have h0 := h.keep (hb0.mono hB)
  have hB2 : B ≤ (w.alloc (.cells (cells4 []) 26)).heap.size := Nat.le_trans hB hb0.size
  clear h
  go_enter Tryd.func35, Tryd.ntmps35
  rw [cells4_nil] at b0 hb0 h0 hB2
  go_wp2_with fail
  revert hB2
  generalize w.alloc (.cells #[.int .i64 (0), .int .i64 (0), .int .i64 (0), .int .i64 (0), .int .i64 (0), .int .i64 (0), .int .i64 (0), .int .i64 (0), .int .i64 (0), .int .i64 (0), .int .i64 (0), .int .i64 (0)] 26) = W0 at b0 hb0 h0 ⊢
  intro hB2
  refine (new32_any (5 * m) W0 B v n bs (by omega) (by omega) hB2 hn h0).mono ?_
  rintro e w1 ⟨g, rfl, hg, hC, hb⟩
  have hgw := b0.lt
  replace b0 : Blk w1 _ _ _ := Blk.keep hb b0
  replace hb0 := b_keep hb hb0
  clear hb h0 hB2 hm0 hm1
  go_wp2_with fail
  refine (draw5_any _ _ _ _ _ _ hC).mono ?_
  rintro r w2 ⟨us, rfl, hl, hs, _, hT⟩
  replace b0 := b0.turn hT (by omega)
  replace hb0 := hb0.trans (Turn.below hT hb0.size (by omega))
  clear hT hC
  have HL := Lib.hid hl
  have HS := Lib.hid hs
  have c0 := b0.cell
  have f0 := b0.frozen
  have l0 := b0.lt
  clear hl hs
  unfold cells4
  go_wp2
  exact makeP_end (us := us) (blk_row12 b0 rfl _ _ _ _ _ _ _ _ _ _ _ _) rfl rfl HL.out HS.out (below_row12 hb0 (Nat.le_refl _) _ _ _ _ _ _ _ _ _ _ _ _)
end Go.Proofs.YtnibknaemgpjdaaDoor

-- from EvI
namespace Go.Proofs.YtnibknaemgpjdaaDoor
open Go.RowKit

set_option maxHeartbeats 8000000 in
theorem evalPatchI (p0 p1 p2 p3 p4 p5 p6 p7 p8 p9 p10 p11 i j n : Int) (w : World) :
    Calls Tryd.prog 36 #[.agg #[.int .i64 (p0), .int .i64 (p1), .int .i64 (p2), .int .i64 (p3), .int .i64 (p4), .int .i64 (p5), .int .i64 (p6), .int .i64 (p7), .int .i64 (p8), .int .i64 (p9), .int .i64 (p10), .int .i64 (p11)], .int .i64 i, .int .i64 j, .int .i64 n] w fun r w' => r = .returned (vec (evF p0 p3 p6 p9 i j n) (evF p1 p4 p7 p10 i j n) (evF p2 p5 p8 p11 i j n)) ∧ Below w.heap.size w w' := by
  have hB := below2 w (.cells #[.int .i64 (p0), .int .i64 (p1), .int .i64 (p2), .int .i64 (p3), .int .i64 (p4), .int .i64 (p5), .int .i64 (p6), .int .i64 (p7), .int .i64 (p8), .int .i64 (p9), .int .i64 (p10), .int .i64 (p11)] 26) (.cells #[.int .i64 (0), .int .i64 (0), .int .i64 (0)] 23)
  obtain ⟨b0, b1⟩ := blk2 w #[.int .i64 (p0), .int .i64 (p1), .int .i64 (p2), .int .i64 (p3), .int .i64 (p4), .int .i64 (p5), .int .i64 (p6), .int .i64 (p7), .int .i64 (p8), .int .i64 (p9), .int .i64 (p10), .int .i64 (p11)] #[.int .i64 (0), .int .i64 (0), .int .i64 (0)] 26 23
  go_enter Tryd.func36, Tryd.ntmps36
  go_wp2_with fail
  generalize ((w.alloc (.cells #[.int .i64 (p0), .int .i64 (p1), .int .i64 (p2), .int .i64 (p3), .int .i64 (p4), .int .i64 (p5), .int .i64 (p6), .int .i64 (p7), .int .i64 (p8), .int .i64 (p9), .int .i64 (p10), .int .i64 (p11)] 26)).alloc (.cells #[.int .i64 (0), .int .i64 (0), .int .i64 (0)] 23)) = W0 at hB b0 b1 ⊢
  have c0 := b0.cell
  have f0 := b0.frozen
  have l0 := b0.lt
  have c1 := b1.cell
  have f1 := b1.frozen
  have l1 := b1.lt
  refine (within_any _ _ _ _).mono ?_
  rintro r w2 ⟨rfl, rfl⟩
  cases h1 : inB n 1 64
  · have HE := Lib.hid (evF_no1 (i := i) (j := j) h1)
    go_wp2_with fail
    refine (clamped_any _ _ _ _).mono ?_
    rintro e w1 ⟨rfl, hb⟩
    have hB := (by with_reducible first | exact b_keep hb hB | exact b_keep hb hB.drew)
    replace b0 : Blk w1 _ _ _ := (by with_reducible first | exact Blk.keep hb b0 | exact Blk.keep hb b0.drew)
    replace b1 : Blk w1 _ _ _ := (by with_reducible first | exact Blk.keep hb b1 | exact Blk.keep hb b1.drew)
    replace l0 := b0.lt
    replace l1 := b1.lt
    replace c0 := b0.cell
    replace c1 := b1.cell
    replace f0 := b0.frozen
    replace f1 := b1.frozen
    clear hb
    go_wp2
    exact bodyPost_ret (v := vec (evF p0 p3 p6 p9 i j n) (evF p1 p4 p7 p10 i j n) (evF p2 p5 p8 p11 i j n)) (by simp [results, Tryd.results36, go_sem, c1, HE.out]) rfl ⟨rfl, (((hB.setCell (by dsimp only; omega) _).setCell (by dsimp only; omega) _).setCell (by dsimp only; omega) _)⟩
  · cases h2 : inB i 0 n
    · have HE := Lib.hid (evF_no2 (j := j) h1 h2)
      go_wp2_with (go_at_call 68; refine (within_any _ _ _ _).mono ?_; rintro r w' ⟨rfl, rfl⟩)
      refine (clamped_any _ _ _ _).mono ?_
      rintro e w1 ⟨rfl, hb⟩
      have hB := (by with_reducible first | exact b_keep hb hB | exact b_keep hb hB.drew)
      replace b0 : Blk w1 _ _ _ := (by with_reducible first | exact Blk.keep hb b0 | exact Blk.keep hb b0.drew)
      replace b1 : Blk w1 _ _ _ := (by with_reducible first | exact Blk.keep hb b1 | exact Blk.keep hb b1.drew)
      replace l0 := b0.lt
      replace l1 := b1.lt
      replace c0 := b0.cell
      replace c1 := b1.cell
      replace f0 := b0.frozen
      replace f1 := b1.frozen
      clear hb
      go_wp2
      exact bodyPost_ret (v := vec (evF p0 p3 p6 p9 i j n) (evF p1 p4 p7 p10 i j n) (evF p2 p5 p8 p11 i j n)) (by simp [results, Tryd.results36, go_sem, c1, HE.out]) rfl ⟨rfl, (((hB.setCell (by dsimp only; omega) _).setCell (by dsimp only; omega) _).setCell (by dsimp only; omega) _)⟩
    · cases h3 : inB j 0 n
      · have HE := Lib.hid (evF_no3 h1 h2 h3)
        go_wp2_with (go_at_call 68; refine (within_any _ _ _ _).mono ?_; rintro r w' ⟨rfl, rfl⟩)
        refine (clamped_any _ _ _ _).mono ?_
        rintro e w1 ⟨rfl, hb⟩
        have hB := (by with_reducible first | exact b_keep hb hB | exact b_keep hb hB.drew)
        replace b0 : Blk w1 _ _ _ := (by with_reducible first | exact Blk.keep hb b0 | exact Blk.keep hb b0.drew)
        replace b1 : Blk w1 _ _ _ := (by with_reducible first | exact Blk.keep hb b1 | exact Blk.keep hb b1.drew)
        replace l0 := b0.lt
        replace l1 := b1.lt
        replace c0 := b0.cell
        replace c1 := b1.cell
        replace f0 := b0.frozen
        replace f1 := b1.frozen
        clear hb
        go_wp2
        exact bodyPost_ret (v := vec (evF p0 p3 p6 p9 i j n) (evF p1 p4 p7 p10 i j n) (evF p2 p5 p8 p11 i j n)) (by simp [results, Tryd.results36, go_sem, c1, HE.out]) rfl ⟨rfl, (((hB.setCell (by dsimp only; omega) _).setCell (by dsimp only; omega) _).setCell (by dsimp only; omega) _)⟩
      · have HE := Lib.hid (evF_yes h1 h2 h3)
        obtain ⟨n1, n2⟩ := inB_iff.1 h1
        obtain ⟨i1, i2⟩ := inB_iff.1 h2
        obtain ⟨j1, j2⟩ := inB_iff.1 h3
        have HQ := Lib.hid (evalPatch0 p0 p1 p2 p3 p4 p5 p6 p7 p8 p9 p10 p11 i j n n1 n2 i1 i2 j1 j2)
        clear n1 n2 i1 i2 j1 j2
        go_wp2_with (go_at_call 68; refine (within_any _ _ _ _).mono ?_; rintro r w' ⟨rfl, rfl⟩)
        with_reducible refine (HQ.out _).mono ?_
        rintro e w1 ⟨rfl, hb⟩
        have hB := (by with_reducible first | exact b_keep hb hB | exact b_keep hb hB.drew)
        replace b0 : Blk w1 _ _ _ := (by with_reducible first | exact Blk.keep hb b0 | exact Blk.keep hb b0.drew)
        replace b1 : Blk w1 _ _ _ := (by with_reducible first | exact Blk.keep hb b1 | exact Blk.keep hb b1.drew)
        replace l0 := b0.lt
        replace l1 := b1.lt
        replace c0 := b0.cell
        replace c1 := b1.cell
        replace f0 := b0.frozen
        replace f1 := b1.frozen
        clear hb
        go_wp2
        exact bodyPost_ret (v := vec (evF p0 p3 p6 p9 i j n) (evF p1 p4 p7 p10 i j n) (evF p2 p5 p8 p11 i j n)) (by simp [results, Tryd.results36, go_sem, c1, HE.out]) rfl ⟨rfl, (((hB.setCell (by dsimp only; omega) _).setCell (by dsimp only; omega) _).setCell (by dsimp only; omega) _)⟩
end Go.Proofs.YtnibknaemgpjdaaDoor

-- from Edge
namespace Go.Proofs.YtnibknaemgpjdaaDoor
open Go.RowKit

def edZ (a b d e k i n : Int) : Int := if inB k 0 3 then (if k = 0 then leZ a b i n else if k = 1 then leZ d e i n else if k = 2 then leZ a d i n else leZ b e i n) else cl a
theorem edZ_no {k : Int} (h : inB k 0 3 = false) (a b d e i n : Int) : edZ a b d e k i n = cl a := by unfold edZ; rw [h]; rfl
theorem edZ_0 (a b d e i n : Int) : edZ a b d e 0 i n = leZ a b i n := rfl
theorem edZ_1 (a b d e i n : Int) : edZ a b d e 1 i n = leZ d e i n := rfl
theorem edZ_2 (a b d e i n : Int) : edZ a b d e 2 i n = leZ a d i n := rfl
theorem edZ_3 (a b d e i n : Int) : edZ a b d e 3 i n = leZ b e i n := rfl

theorem blk5 (W : World) (a b c d e : Array Value) (s t : TypeId) :
    let W1 := ((((W.alloc (.cells a t)).alloc (.cells b t)).alloc (.cells c t)).alloc (.cells d t)).alloc (.cells e s)
    (Blk W1 W.heap.size t a ∧ Blk W1 (W.heap.size + 1) t b ∧ Blk W1 (W.heap.size + 1 + 1) t c ∧ Blk W1 (W.heap.size + 1 + 1 + 1) t d ∧ Blk W1 (W.heap.size + 1 + 1 + 1 + 1) s e) ∧
    (∀ g u cs, Blk W g u cs → Blk W1 g u cs) ∧ (∀ B w, B ≤ W.heap.size → Below B w W → Below B w W1) := by
  intro W1
  have h0 := Blk.new W t a
  have h1 := Blk.new (W.alloc (.cells a t)) t b
  have h2 := Blk.new ((W.alloc (.cells a t)).alloc (.cells b t)) t c
  have h3 := Blk.new (((W.alloc (.cells a t)).alloc (.cells b t)).alloc (.cells c t)) t d
  have h4 := Blk.new ((((W.alloc (.cells a t)).alloc (.cells b t)).alloc (.cells c t)).alloc (.cells d t)) s e
  simp only [World.size_alloc] at h1 h2 h3 h4
  refine ⟨⟨(((h0.alloc _).alloc _).alloc _).alloc _, ((h1.alloc _).alloc _).alloc _, (h2.alloc _).alloc _, h3.alloc _, h4⟩, fun g u cs h => ((((h.alloc _).alloc _).alloc _).alloc _).alloc _, fun B w s0 h => ?_⟩
  exact ((((h.alloc s0 _).alloc (by simp only [World.size_alloc]; omega) _).alloc (by simp only [World.size_alloc]; omega) _).alloc (by simp only [World.size_alloc]; omega) _).alloc (by simp only [World.size_alloc]; omega) _

set_option maxHeartbeats 4000000 in
theorem edgeI (p0 p1 p2 p3 p4 p5 p6 p7 p8 p9 p10 p11 k i n : Int) (w : World) :
    Calls Tryd.prog 40 #[.agg #[.int .i64 (p0), .int .i64 (p1), .int .i64 (p2), .int .i64 (p3), .int .i64 (p4), .int .i64 (p5), .int .i64 (p6), .int .i64 (p7), .int .i64 (p8), .int .i64 (p9), .int .i64 (p10), .int .i64 (p11)], .int .i64 k, .int .i64 i, .int .i64 n] w fun r w' => r = .returned (vec (edZ p0 p3 p6 p9 k i n) (edZ p1 p4 p7 p10 k i n) (edZ p2 p5 p8 p11 k i n)) ∧ Below w.heap.size w w' := by
  have hB := below3 w (.cells #[.int .i64 (p0), .int .i64 (p1), .int .i64 (p2), .int .i64 (p3), .int .i64 (p4), .int .i64 (p5), .int .i64 (p6), .int .i64 (p7), .int .i64 (p8), .int .i64 (p9), .int .i64 (p10), .int .i64 (p11)] 26) (.cells #[.int .i64 (0), .int .i64 (0), .int .i64 (0)] 23) (.cells #[.int .i64 (0), .int .i64 (1), .int .i64 (2), .int .i64 (3), .int .i64 (0), .int .i64 (2), .int .i64 (1), .int .i64 (3)] 107)
  obtain ⟨b0, b1, b2⟩ := blk3 w #[.int .i64 (p0), .int .i64 (p1), .int .i64 (p2), .int .i64 (p3), .int .i64 (p4), .int .i64 (p5), .int .i64 (p6), .int .i64 (p7), .int .i64 (p8), .int .i64 (p9), .int .i64 (p10), .int .i64 (p11)] #[.int .i64 (0), .int .i64 (0), .int .i64 (0)] #[.int .i64 (0), .int .i64 (1), .int .i64 (2), .int .i64 (3), .int .i64 (0), .int .i64 (2), .int .i64 (1), .int .i64 (3)] 26 23 107
  go_enter Tryd.func40, Tryd.ntmps40
  go_wp2_with fail
  generalize (((w.alloc (.cells #[.int .i64 (p0), .int .i64 (p1), .int .i64 (p2), .int .i64 (p3), .int .i64 (p4), .int .i64 (p5), .int .i64 (p6), .int .i64 (p7), .int .i64 (p8), .int .i64 (p9), .int .i64 (p10), .int .i64 (p11)] 26)).alloc (.cells #[.int .i64 (0), .int .i64 (0), .int .i64 (0)] 23)).alloc (.cells #[.int .i64 (0), .int .i64 (1), .int .i64 (2), .int .i64 (3), .int .i64 (0), .int .i64 (2), .int .i64 (1), .int .i64 (3)] 107)) = W0 at hB b0 b1 b2 ⊢
  have c0 := b0.cell
  have f0 := b0.frozen
  have l0 := b0.lt
  have c1 := b1.cell
  have f1 := b1.frozen
  have l1 := b1.lt
  have c2 := b2.cell
  have f2 := b2.frozen
  have l2 := b2.lt
  refine (within_any _ _ _ _).mono ?_
  rintro r w2 ⟨rfl, rfl⟩
  cases h1 : inB k 0 3
  · have HE := Lib.hid (edZ_no h1)
    go_wp2_with fail
    refine (clamped_any _ _ _ _).mono ?_
    rintro e w1 ⟨rfl, hb⟩
    have hB := (by with_reducible first | exact b_keep hb hB | exact b_keep hb hB.drew)
    replace b0 : Blk w1 _ _ _ := (by with_reducible first | exact Blk.keep hb b0 | exact Blk.keep hb b0.drew)
    replace b1 : Blk w1 _ _ _ := (by with_reducible first | exact Blk.keep hb b1 | exact Blk.keep hb b1.drew)
    replace b2 : Blk w1 _ _ _ := (by with_reducible first | exact Blk.keep hb b2 | exact Blk.keep hb b2.drew)
    replace l0 := b0.lt
    replace l1 := b1.lt
    replace l2 := b2.lt
    replace c0 := b0.cell
    replace c1 := b1.cell
    replace c2 := b2.cell
    replace f0 := b0.frozen
    replace f1 := b1.frozen
    replace f2 := b2.frozen
    clear hb
    go_wp2
    exact bodyPost_ret (v := vec (edZ p0 p3 p6 p9 k i n) (edZ p1 p4 p7 p10 k i n) (edZ p2 p5 p8 p11 k i n)) (by simp [results, Tryd.results40, go_sem, c1, HE.out]) rfl ⟨rfl, (((hB.setCell (by dsimp only; omega) _).setCell (by dsimp only; omega) _).setCell (by dsimp only; omega) _)⟩
  · obtain ⟨k1, k2⟩ := inB_iff.1 h1
    rcases (by omega : k = 0 ∨ k = 1 ∨ k = 2 ∨ k = 3) with rfl | rfl | rfl | rfl
    all_goals clear k1 k2
    · have HE := Lib.hid edZ_0
      go_wp2_with fail
      go_region_held3 (fun w' => (∀ i, w'.cell? ⟨w.heap.size, i, none⟩ = (#[.int .i64 (p0), .int .i64 (p1), .int .i64 (p2), .int .i64 (p3), .int .i64 (p4), .int .i64 (p5), .int .i64 (p6), .int .i64 (p7), .int .i64 (p8), .int .i64 (p9), .int .i64 (p10), .int .i64 (p11)] : Array Value)[i]?) ∧ (∀ i, w'.cell? ⟨w.heap.size + 1 + 1, i, none⟩ = (#[.int .i64 (0), .int .i64 (1), .int .i64 (2), .int .i64 (3), .int .i64 (0), .int .i64 (2), .int .i64 (1), .int .i64 (3)] : Array Value)[i]?)) (first | with_reducible exact ⟨b0.cell, b2.cell⟩ | with_reducible exact ⟨b0.drew.cell, b2.drew.cell⟩ | with_reducible exact ⟨(b0.alloc _).cell, (b2.alloc _).cell⟩ | with_reducible exact ⟨(b0.alloc _).drew.cell, (b2.alloc _).drew.cell⟩ | exact ⟨(b0.far3 (by omega) _ _ _).cell, (b2.far3 (by omega) _ _ _).cell⟩ | exact ⟨(b0.far3 (by omega) _ _ _).drew.cell, (b2.far3 (by omega) _ _ _).drew.cell⟩ | go_keep)
        (first
          | (go_at_call 31; refine (lerpI p0 p1 p2 p3 p4 p5 i n _).mono ?_; rintro e w1 ⟨rfl, hb⟩; have hB := (by with_reducible first | exact b_keep hb hB | exact b_keep hb hB.drew); replace b0 : Blk w1 _ _ _ := (by with_reducible first | exact Blk.keep hb b0 | exact Blk.keep hb b0.drew); replace b1 : Blk w1 _ _ _ := (by with_reducible first | exact Blk.keep hb b1 | exact Blk.keep hb b1.drew); replace b2 : Blk w1 _ _ _ := (by with_reducible first | exact Blk.keep hb b2 | exact Blk.keep hb b2.drew); replace l0 := b0.lt; replace l1 := b1.lt; replace l2 := b2.lt; replace c0 := b0.cell; replace c1 := b1.cell; replace c2 := b2.cell; replace f0 := b0.frozen; replace f1 := b1.frozen; replace f2 := b2.frozen))
      go_wp2
      exact bodyPost_ret (v := vec (edZ p0 p3 p6 p9 0 i n) (edZ p1 p4 p7 p10 0 i n) (edZ p2 p5 p8 p11 0 i n)) (by simp [results, Tryd.results40, go_sem, c1, HE.out]) rfl ⟨rfl, (((hB.setCell (by dsimp only; omega) _).setCell (by dsimp only; omega) _).setCell (by dsimp only; omega) _)⟩
    · have HE := Lib.hid edZ_1
      go_wp2_with fail
      go_region_held3 (fun w' => (∀ i, w'.cell? ⟨w.heap.size, i, none⟩ = (#[.int .i64 (p0), .int .i64 (p1), .int .i64 (p2), .int .i64 (p3), .int .i64 (p4), .int .i64 (p5), .int .i64 (p6), .int .i64 (p7), .int .i64 (p8), .int .i64 (p9), .int .i64 (p10), .int .i64 (p11)] : Array Value)[i]?) ∧ (∀ i, w'.cell? ⟨w.heap.size + 1 + 1, i, none⟩ = (#[.int .i64 (0), .int .i64 (1), .int .i64 (2), .int .i64 (3), .int .i64 (0), .int .i64 (2), .int .i64 (1), .int .i64 (3)] : Array Value)[i]?)) (first | with_reducible exact ⟨b0.cell, b2.cell⟩ | with_reducible exact ⟨b0.drew.cell, b2.drew.cell⟩ | with_reducible exact ⟨(b0.alloc _).cell, (b2.alloc _).cell⟩ | with_reducible exact ⟨(b0.alloc _).drew.cell, (b2.alloc _).drew.cell⟩ | exact ⟨(b0.far3 (by omega) _ _ _).cell, (b2.far3 (by omega) _ _ _).cell⟩ | exact ⟨(b0.far3 (by omega) _ _ _).drew.cell, (b2.far3 (by omega) _ _ _).drew.cell⟩ | go_keep)
        (first
          | (go_at_call 31; refine (lerpI p6 p7 p8 p9 p10 p11 i n _).mono ?_; rintro e w1 ⟨rfl, hb⟩; have hB := (by with_reducible first | exact b_keep hb hB | exact b_keep hb hB.drew); replace b0 : Blk w1 _ _ _ := (by with_reducible first | exact Blk.keep hb b0 | exact Blk.keep hb b0.drew); replace b1 : Blk w1 _ _ _ := (by with_reducible first | exact Blk.keep hb b1 | exact Blk.keep hb b1.drew); replace b2 : Blk w1 _ _ _ := (by with_reducible first | exact Blk.keep hb b2 | exact Blk.keep hb b2.drew); replace l0 := b0.lt; replace l1 := b1.lt; replace l2 := b2.lt; replace c0 := b0.cell; replace c1 := b1.cell; replace c2 := b2.cell; replace f0 := b0.frozen; replace f1 := b1.frozen; replace f2 := b2.frozen))
      go_wp2
      exact bodyPost_ret (v := vec (edZ p0 p3 p6 p9 1 i n) (edZ p1 p4 p7 p10 1 i n) (edZ p2 p5 p8 p11 1 i n)) (by simp [results, Tryd.results40, go_sem, c1, HE.out]) rfl ⟨rfl, (((hB.setCell (by dsimp only; omega) _).setCell (by dsimp only; omega) _).setCell (by dsimp only; omega) _)⟩
    · have HE := Lib.hid edZ_2
      go_wp2_with fail
      go_region_held3 (fun w' => (∀ i, w'.cell? ⟨w.heap.size, i, none⟩ = (#[.int .i64 (p0), .int .i64 (p1), .int .i64 (p2), .int .i64 (p3), .int .i64 (p4), .int .i64 (p5), .int .i64 (p6), .int .i64 (p7), .int .i64 (p8), .int .i64 (p9), .int .i64 (p10), .int .i64 (p11)] : Array Value)[i]?) ∧ (∀ i, w'.cell? ⟨w.heap.size + 1 + 1, i, none⟩ = (#[.int .i64 (0), .int .i64 (1), .int .i64 (2), .int .i64 (3), .int .i64 (0), .int .i64 (2), .int .i64 (1), .int .i64 (3)] : Array Value)[i]?)) (first | with_reducible exact ⟨b0.cell, b2.cell⟩ | with_reducible exact ⟨b0.drew.cell, b2.drew.cell⟩ | with_reducible exact ⟨(b0.alloc _).cell, (b2.alloc _).cell⟩ | with_reducible exact ⟨(b0.alloc _).drew.cell, (b2.alloc _).drew.cell⟩ | exact ⟨(b0.far3 (by omega) _ _ _).cell, (b2.far3 (by omega) _ _ _).cell⟩ | exact ⟨(b0.far3 (by omega) _ _ _).drew.cell, (b2.far3 (by omega) _ _ _).drew.cell⟩ | go_keep)
        (first
          | (go_at_call 31; refine (lerpI p0 p1 p2 p6 p7 p8 i n _).mono ?_; rintro e w1 ⟨rfl, hb⟩; have hB := (by with_reducible first | exact b_keep hb hB | exact b_keep hb hB.drew); replace b0 : Blk w1 _ _ _ := (by with_reducible first | exact Blk.keep hb b0 | exact Blk.keep hb b0.drew); replace b1 : Blk w1 _ _ _ := (by with_reducible first | exact Blk.keep hb b1 | exact Blk.keep hb b1.drew); replace b2 : Blk w1 _ _ _ := (by with_reducible first | exact Blk.keep hb b2 | exact Blk.keep hb b2.drew); replace l0 := b0.lt; replace l1 := b1.lt; replace l2 := b2.lt; replace c0 := b0.cell; replace c1 := b1.cell; replace c2 := b2.cell; replace f0 := b0.frozen; replace f1 := b1.frozen; replace f2 := b2.frozen))
      go_wp2
      exact bodyPost_ret (v := vec (edZ p0 p3 p6 p9 2 i n) (edZ p1 p4 p7 p10 2 i n) (edZ p2 p5 p8 p11 2 i n)) (by simp [results, Tryd.results40, go_sem, c1, HE.out]) rfl ⟨rfl, (((hB.setCell (by dsimp only; omega) _).setCell (by dsimp only; omega) _).setCell (by dsimp only; omega) _)⟩
    · have HE := Lib.hid edZ_3
      go_wp2_with fail
      go_region_held3 (fun w' => (∀ i, w'.cell? ⟨w.heap.size, i, none⟩ = (#[.int .i64 (p0), .int .i64 (p1), .int .i64 (p2), .int .i64 (p3), .int .i64 (p4), .int .i64 (p5), .int .i64 (p6), .int .i64 (p7), .int .i64 (p8), .int .i64 (p9), .int .i64 (p10), .int .i64 (p11)] : Array Value)[i]?) ∧ (∀ i, w'.cell? ⟨w.heap.size + 1 + 1, i, none⟩ = (#[.int .i64 (0), .int .i64 (1), .int .i64 (2), .int .i64 (3), .int .i64 (0), .int .i64 (2), .int .i64 (1), .int .i64 (3)] : Array Value)[i]?)) (first | with_reducible exact ⟨b0.cell, b2.cell⟩ | with_reducible exact ⟨b0.drew.cell, b2.drew.cell⟩ | with_reducible exact ⟨(b0.alloc _).cell, (b2.alloc _).cell⟩ | with_reducible exact ⟨(b0.alloc _).drew.cell, (b2.alloc _).drew.cell⟩ | exact ⟨(b0.far3 (by omega) _ _ _).cell, (b2.far3 (by omega) _ _ _).cell⟩ | exact ⟨(b0.far3 (by omega) _ _ _).drew.cell, (b2.far3 (by omega) _ _ _).drew.cell⟩ | go_keep)
        (first
          | (go_at_call 31; refine (lerpI p3 p4 p5 p9 p10 p11 i n _).mono ?_; rintro e w1 ⟨rfl, hb⟩; have hB := (by with_reducible first | exact b_keep hb hB | exact b_keep hb hB.drew); replace b0 : Blk w1 _ _ _ := (by with_reducible first | exact Blk.keep hb b0 | exact Blk.keep hb b0.drew); replace b1 : Blk w1 _ _ _ := (by with_reducible first | exact Blk.keep hb b1 | exact Blk.keep hb b1.drew); replace b2 : Blk w1 _ _ _ := (by with_reducible first | exact Blk.keep hb b2 | exact Blk.keep hb b2.drew); replace l0 := b0.lt; replace l1 := b1.lt; replace l2 := b2.lt; replace c0 := b0.cell; replace c1 := b1.cell; replace c2 := b2.cell; replace f0 := b0.frozen; replace f1 := b1.frozen; replace f2 := b2.frozen))
      go_wp2
      exact bodyPost_ret (v := vec (edZ p0 p3 p6 p9 3 i n) (edZ p1 p4 p7 p10 3 i n) (edZ p2 p5 p8 p11 3 i n)) (by simp [results, Tryd.results40, go_sem, c1, HE.out]) rfl ⟨rfl, (((hB.setCell (by dsimp only; omega) _).setCell (by dsimp only; omega) _).setCell (by dsimp only; omega) _)⟩
end Go.Proofs.YtnibknaemgpjdaaDoor

-- from PBnd
namespace Go.Proofs.YtnibknaemgpjdaaDoor
open Go.RowKit

theorem triAt_patch (p0 p1 p2 p3 p4 p5 p6 p7 p8 p9 p10 p11 : Int) {w : World} {g : Nat} {t : TypeId} (h : Blk w g t #[.int .i64 (p0), .int .i64 (p1), .int .i64 (p2), .int .i64 (p3), .int .i64 (p4), .int .i64 (p5), .int .i64 (p6), .int .i64 (p7), .int .i64 (p8), .int .i64 (p9), .int .i64 (p10), .int .i64 (p11)]) :
    TriAt w (.slice (some ⟨g, 0, none⟩) 4 4) 4 (cx p0 p3 p6 p9) (cx p1 p4 p7 p10) (cx p2 p5 p8 p11) := by
  refine ⟨_, _, rfl, Nat.le_refl _, fun _ => ⟨g, 0, rfl, h.lt, fun i hi => ?_⟩⟩
  rcases (by omega : i = 0 ∨ i = 1 ∨ i = 2 ∨ i = 3) with rfl | rfl | rfl | rfl <;> exact ⟨h.cell _, h.cell _, h.cell _⟩
set_option maxHeartbeats 2000000 in
theorem patchBoundsI (p0 p1 p2 p3 p4 p5 p6 p7 p8 p9 p10 p11 : Int) (w : World) :
    Calls Tryd.prog 39 #[.agg #[.int .i64 (p0), .int .i64 (p1), .int .i64 (p2), .int .i64 (p3), .int .i64 (p4), .int .i64 (p5), .int .i64 (p6), .int .i64 (p7), .int .i64 (p8), .int .i64 (p9), .int .i64 (p10), .int .i64 (p11)]] w fun r w' => r = .returned (.agg #[.int .i64 (bpL (cx p0 p3 p6 p9) 4), .int .i64 (bpL (cx p1 p4 p7 p10) 4), .int .i64 (bpL (cx p2 p5 p8 p11) 4), .int .i64 (bpH (cx p0 p3 p6 p9) 4), .int .i64 (bpH (cx p1 p4 p7 p10) 4), .int .i64 (bpH (cx p2 p5 p8 p11) 4)]) ∧ Below w.heap.size w w' := by
  have hB := below2 w (.cells #[.int .i64 (p0), .int .i64 (p1), .int .i64 (p2), .int .i64 (p3), .int .i64 (p4), .int .i64 (p5), .int .i64 (p6), .int .i64 (p7), .int .i64 (p8), .int .i64 (p9), .int .i64 (p10), .int .i64 (p11)] 26) (.cells #[.int .i64 (0), .int .i64 (0), .int .i64 (0), .int .i64 (0), .int .i64 (0), .int .i64 (0)] 66)
  obtain ⟨b0, b1⟩ := blk2 w #[.int .i64 (p0), .int .i64 (p1), .int .i64 (p2), .int .i64 (p3), .int .i64 (p4), .int .i64 (p5), .int .i64 (p6), .int .i64 (p7), .int .i64 (p8), .int .i64 (p9), .int .i64 (p10), .int .i64 (p11)] #[.int .i64 (0), .int .i64 (0), .int .i64 (0), .int .i64 (0), .int .i64 (0), .int .i64 (0)] 26 66
  have hT := triAt_patch p0 p1 p2 p3 p4 p5 p6 p7 p8 p9 p10 p11 b0
  go_enter Tryd.func39, Tryd.ntmps39
  go_wp2_with fail
  revert hT
  generalize ((w.alloc (.cells #[.int .i64 (p0), .int .i64 (p1), .int .i64 (p2), .int .i64 (p3), .int .i64 (p4), .int .i64 (p5), .int .i64 (p6), .int .i64 (p7), .int .i64 (p8), .int .i64 (p9), .int .i64 (p10), .int .i64 (p11)] 26)).alloc (.cells #[.int .i64 (0), .int .i64 (0), .int .i64 (0), .int .i64 (0), .int .i64 (0), .int .i64 (0)] 66)) = W0 at hB b0 b1 ⊢
  intro hT
  refine (boundI _ 4 (cx p0 p3 p6 p9) (cx p1 p4 p7 p10) (cx p2 p5 p8 p11) _ hT (by omega)).mono ?_
  rintro e w1 ⟨rfl, hb⟩
  replace hB := b_keep hb hB
  replace b0 : Blk w1 _ _ _ := Blk.keep hb b0
  replace b1 : Blk w1 _ _ _ := Blk.keep hb b1
  clear hb hT
  have c0 := b0.cell
  have f0 := b0.frozen
  have l0 := b0.lt
  have c1 := b1.cell
  have f1 := b1.frozen
  have l1 := b1.lt
  go_upto_region 2 with fail
  have d2_0 := b0.lt
  have d2_1 := b1.lt
  have g2 := hB.size
  replace b0 := b0.alloc (.cells #[.int .i64 (bpL (cx p0 p3 p6 p9) 4), .int .i64 (bpL (cx p1 p4 p7 p10) 4), .int .i64 (bpL (cx p2 p5 p8 p11) 4), .int .i64 (bpH (cx p0 p3 p6 p9) 4), .int .i64 (bpH (cx p1 p4 p7 p10) 4), .int .i64 (bpH (cx p2 p5 p8 p11) 4)] 66)
  replace b1 := b1.alloc (.cells #[.int .i64 (bpL (cx p0 p3 p6 p9) 4), .int .i64 (bpL (cx p1 p4 p7 p10) 4), .int .i64 (bpL (cx p2 p5 p8 p11) 4), .int .i64 (bpH (cx p0 p3 p6 p9) 4), .int .i64 (bpH (cx p1 p4 p7 p10) 4), .int .i64 (bpH (cx p2 p5 p8 p11) 4)] 66)
  have b2 := Blk.new w1 66 #[.int .i64 (bpL (cx p0 p3 p6 p9) 4), .int .i64 (bpL (cx p1 p4 p7 p10) 4), .int .i64 (bpL (cx p2 p5 p8 p11) 4), .int .i64 (bpH (cx p0 p3 p6 p9) 4), .int .i64 (bpH (cx p1 p4 p7 p10) 4), .int .i64 (bpH (cx p2 p5 p8 p11) 4)]
  replace hB := hB.alloc hB.size (.cells #[.int .i64 (bpL (cx p0 p3 p6 p9) 4), .int .i64 (bpL (cx p1 p4 p7 p10) 4), .int .i64 (bpL (cx p2 p5 p8 p11) 4), .int .i64 (bpH (cx p0 p3 p6 p9) 4), .int .i64 (bpH (cx p1 p4 p7 p10) 4), .int .i64 (bpH (cx p2 p5 p8 p11) 4)] 66)
  clear c0 f0 l0 c1 f1 l1
  generalize w1.heap.size = q2 at b2 g2 d2_0 d2_1 ⊢
  generalize w1.alloc (.cells #[.int .i64 (bpL (cx p0 p3 p6 p9) 4), .int .i64 (bpL (cx p1 p4 p7 p10) 4), .int .i64 (bpL (cx p2 p5 p8 p11) 4), .int .i64 (bpH (cx p0 p3 p6 p9) 4), .int .i64 (bpH (cx p1 p4 p7 p10) 4), .int .i64 (bpH (cx p2 p5 p8 p11) 4)] 66) = W2 at hB b0 b1 b2 ⊢
  have c0 := b0.cell
  have f0 := b0.frozen
  have l0 := b0.lt
  have c1 := b1.cell
  have f1 := b1.frozen
  have l1 := b1.lt
  have c2 := b2.cell
  have f2 := b2.frozen
  have l2 := b2.lt
  go_wp2
  exact bodyPost_ret (v := .agg #[.int .i64 (bpL (cx p0 p3 p6 p9) 4), .int .i64 (bpL (cx p1 p4 p7 p10) 4), .int .i64 (bpL (cx p2 p5 p8 p11) 4), .int .i64 (bpH (cx p0 p3 p6 p9) 4), .int .i64 (bpH (cx p1 p4 p7 p10) 4), .int .i64 (bpH (cx p2 p5 p8 p11) 4)]) (by simp [results, Tryd.results39, go_sem, c1]) rfl ⟨rfl, below_set6 hB (by omega) _ _ _ _ _ _⟩
end Go.Proofs.YtnibknaemgpjdaaDoor

-- from PatM
namespace Go.Proofs.YtnibknaemgpjdaaDoor
open Go Go.RowKit
open Go.ChangeShapes Go.WideShapes Go.ChangeAt

theorem eqv_same (a b c : Int) (w : World) : (Op.equalIn 10000 23 (.agg #[.int .i64 (a), .int .i64 (b), .int .i64 (c)]) (.agg #[.int .i64 (a), .int .i64 (b), .int .i64 (c)])).run Tryd.prog w = .ok true w := by
  rw [equalIn_vec]; simp
theorem eqv_same8 (a b c : Int) (w : World) : (Op.equalIn 9998 23 (.agg #[.int .i64 (a), .int .i64 (b), .int .i64 (c)]) (.agg #[.int .i64 (a), .int .i64 (b), .int .i64 (c)])).run Tryd.prog w = .ok true w := by
  have hS : Tryd.prog.underlying 23 = some (.struct (Tryd.prog.fieldsOf 23)) := by kernel_rfl
  have hp : Tryd.prog.stoodInHeld 23 = false := by kernel_rfl
  rw [show (9998 : Nat) = 9997 + 1 from rfl, run_equalIn_agg w 9997 23 _ _ hS hp]
  simp only [Program.fieldsOf, Tryd.underlying23]
  go_simp
set_option maxRecDepth 100000 in
theorem eqp_same (us : List V3) (w : World) : (Op.equalIn 10000 26 (.agg (cells4 us)) (.agg (cells4 us))).run Tryd.prog w = .ok true w := by
  have hS : Tryd.prog.underlying 26 = some (.struct (Tryd.prog.fieldsOf 26)) := by kernel_rfl
  have hp : Tryd.prog.stoodInHeld 26 = false := by kernel_rfl
  have hA : Tryd.prog.underlying 24 = some (.array 4 23) := by kernel_rfl
  have hc : Tryd.prog.cellsOf 23 = 3 := by kernel_rfl
  have hc2 : Tryd.prog.cellsOf 24 = 12 := by kernel_rfl
  have hi : ∃ i, Tryd.prog.info? 23 = some i := by
    cases h : Tryd.prog.info? 23 with
    | none => exact absurd (show (Tryd.prog.info? 23).isSome = true by kernel_rfl) (by simp [h])
    | some i => exact ⟨i, rfl⟩
  obtain ⟨i, hi⟩ := hi
  have hS2 : Tryd.prog.underlying 23 = some (.struct (Tryd.prog.fieldsOf 23)) := by kernel_rfl
  have hr := fun xs ys w => run_equalIn_array (P := Tryd.prog) (w := w) 9998 xs ys hA hi
  have he := fun a b c w => eqv_same8 a b c w
  rw [show (10000 : Nat) = 9999 + 1 from rfl, run_equalIn_agg w 9999 26 _ _ hS hp]
  simp only [Program.fieldsOf, Tryd.underlying26]
  unfold cells4
  generalize (vat us 0).1 = x0; generalize (vat us 0).2.1 = x1; generalize (vat us 0).2.2 = x2
  generalize (vat us 1).1 = x3; generalize (vat us 1).2.1 = x4; generalize (vat us 1).2.2 = x5
  generalize (vat us 2).1 = x6; generalize (vat us 2).2.1 = x7; generalize (vat us 2).2.2 = x8
  generalize (vat us 3).1 = x9; generalize (vat us 3).2.1 = x10; generalize (vat us 3).2.2 = x11
  go_simp
  simp [he, Op.eqItems, part, go_sem]
theorem guard_patch : Tryd.prog.eqGuardType Tryd.prog.depth 26 = false := by kernel_rfl
def Sm (n : Int) : Prop := -100 ≤ n ∧ n ≤ 299
theorem Sm.cl {n : Int} (h : Sm n) : cl n = n := by unfold Sm at h; exact cl_id (by omega) (by omega)
theorem inB_t {n lo hi : Int} (h1 : lo ≤ n) (h2 : n ≤ hi) : inB n lo hi = true := inB_iff.2 ⟨h1, h2⟩
/-- An average with weights lies between. -/
theorem avg_in {a b d e lo hi w0 w1 w2 w3 N : Int} (h0 : 0 ≤ w0) (h1 : 0 ≤ w1) (h2 : 0 ≤ w2) (h3 : 0 ≤ w3) (hN : w0 + w1 + w2 + w3 = N) (hp : 1 ≤ N)
    (ha : lo ≤ a ∧ a ≤ hi) (hb : lo ≤ b ∧ b ≤ hi) (hd : lo ≤ d ∧ d ≤ hi) (he : lo ≤ e ∧ e ≤ hi) : lo ≤ (w0 * a + w1 * b + w2 * d + w3 * e) / N ∧ (w0 * a + w1 * b + w2 * d + w3 * e) / N ≤ hi := by
  have a1 := Int.mul_le_mul_of_nonneg_left ha.1 h0
  have a2 := Int.mul_le_mul_of_nonneg_left ha.2 h0
  have b1 := Int.mul_le_mul_of_nonneg_left hb.1 h1
  have b2 := Int.mul_le_mul_of_nonneg_left hb.2 h1
  have d1 := Int.mul_le_mul_of_nonneg_left hd.1 h2
  have d2 := Int.mul_le_mul_of_nonneg_left hd.2 h2
  have e1 := Int.mul_le_mul_of_nonneg_left he.1 h3
  have e2 := Int.mul_le_mul_of_nonneg_left he.2 h3
  have k1 : lo * N = w0 * lo + w1 * lo + w2 * lo + w3 * lo := by rw [← hN, Int.mul_comm, Int.add_mul, Int.add_mul, Int.add_mul]
  have k2 : hi * N = w0 * hi + w1 * hi + w2 * hi + w3 * hi := by rw [← hN, Int.mul_comm, Int.add_mul, Int.add_mul, Int.add_mul]
  refine ⟨(Int.le_ediv_iff_mul_le (by omega)).2 (by omega), ?_⟩
  have : (w0 * a + w1 * b + w2 * d + w3 * e) / N < hi + 1 := (Int.ediv_lt_iff_lt_mul (by omega)).2 (by rw [Int.add_mul]; omega)
  omega
theorem wsum (i j n : Int) : (n - i) * (n - j) + i * (n - j) + (n - i) * j + i * j = n * n := by
  have e1 : (n - i) * (n - j) + i * (n - j) = n * (n - j) := by rw [← Int.add_mul]; congr 1; omega
  have e2 : (n - i) * j + i * j = n * j := by rw [← Int.add_mul]; congr 1; omega
  have e3 : n * (n - j) + n * j = n * n := by rw [← Int.mul_add]; congr 1; omega
  omega
theorem sq_pos {n : Int} (h : 1 ≤ n) : 1 ≤ n * n := by
  have := Int.mul_le_mul_of_nonneg_left h (show 0 ≤ n by omega)
  omega
theorem evF_is {a b d e i j n : Int} (ha : Sm a) (hb : Sm b) (hd : Sm d) (he : Sm e) (h1 : 1 ≤ n) (h2 : n ≤ 64) (hi : 0 ≤ i ∧ i ≤ n) (hj : 0 ≤ j ∧ j ≤ n) :
    evF a b d e i j n = ((n - i) * (n - j) * a + i * (n - j) * b + (n - i) * j * d + i * j * e) / (n * n) := by
  rw [evF_yes (inB_t h1 h2) (inB_t hi.1 hi.2) (inB_t hj.1 hj.2)]
  unfold evW
  rw [ha.cl, hb.cl, hd.cl, he.cl, fdZ_pos (sq_pos h1)]
theorem evF_in {a b d e i j n lo hi : Int} (ha : Sm a) (hb : Sm b) (hd : Sm d) (he : Sm e) (h1 : 1 ≤ n) (h2 : n ≤ 64) (hi' : 0 ≤ i ∧ i ≤ n) (hj : 0 ≤ j ∧ j ≤ n)
    (ka : lo ≤ a ∧ a ≤ hi) (kb : lo ≤ b ∧ b ≤ hi) (kd : lo ≤ d ∧ d ≤ hi) (ke : lo ≤ e ∧ e ≤ hi) : lo ≤ evF a b d e i j n ∧ evF a b d e i j n ≤ hi := by
  rw [evF_is ha hb hd he h1 h2 hi' hj]
  exact avg_in (Int.mul_nonneg (by omega) (by omega)) (Int.mul_nonneg (by omega) (by omega)) (Int.mul_nonneg (by omega) (by omega)) (Int.mul_nonneg (by omega) (by omega)) (wsum i j n) (sq_pos h1) ka kb kd ke
theorem mul22 (x y : Int) : 2 * x * (2 * y) = 4 * (x * y) := by rw [Int.mul_assoc, ← Int.mul_assoc x 2 y, Int.mul_comm x 2, Int.mul_assoc 2 x y, ← Int.mul_assoc]; rfl
theorem evF_fine {a b d e i j n : Int} (ha : Sm a) (hb : Sm b) (hd : Sm d) (he : Sm e) (h1 : 1 ≤ n) (h2 : n ≤ 32) (hi : 0 ≤ i ∧ i ≤ n) (hj : 0 ≤ j ∧ j ≤ n) :
    evF a b d e (2 * i) (2 * j) (2 * n) = evF a b d e i j n := by
  rw [evF_is ha hb hd he h1 (by omega) hi hj, evF_is ha hb hd he (by omega) (by omega) (by omega) (by omega)]
  have e1 : 2 * n - 2 * i = 2 * (n - i) := by omega
  have e2 : 2 * n - 2 * j = 2 * (n - j) := by omega
  rw [e1, e2, mul22, mul22, mul22, mul22, mul22]
  generalize (n - i) * (n - j) = w0
  generalize i * (n - j) = w1
  generalize (n - i) * j = w2
  generalize i * j = w3
  have e3 : 4 * w0 * a + 4 * w1 * b + 4 * w2 * d + 4 * w3 * e = 4 * (w0 * a + w1 * b + w2 * d + w3 * e) := by
    rw [Int.mul_assoc, Int.mul_assoc, Int.mul_assoc, Int.mul_assoc]; omega
  rw [e3, Int.mul_ediv_mul_of_pos _ _ (by omega)]
theorem leZ_is {a b i n : Int} (ha : Sm a) (hb : Sm b) (h1 : 1 ≤ n) (h2 : n ≤ 4096) (hi : 0 ≤ i ∧ i ≤ n) : leZ a b i n = (a * (n - i) + b * i) / n := by
  rw [leZ_ok (inB_t h1 h2) (inB_t hi.1 hi.2), ha.cl, hb.cl, fdZ_pos h1]
theorem evF_lo {a b d e i n : Int} (ha : Sm a) (hb : Sm b) (hd : Sm d) (he : Sm e) (h1 : 1 ≤ n) (h2 : n ≤ 64) (hi : 0 ≤ i ∧ i ≤ n) : evF a b d e i 0 n = leZ a b i n := by
  rw [evF_is ha hb hd he h1 h2 hi (by omega), leZ_is ha hb h1 (by omega) hi]
  have e1 : (n - i) * (n - 0) * a + i * (n - 0) * b + (n - i) * 0 * d + i * 0 * e = n * (a * (n - i) + b * i) := by
    rw [Int.sub_zero, Int.mul_zero, Int.mul_zero, Int.zero_mul, Int.zero_mul, Int.add_zero, Int.add_zero, Int.mul_add, Int.mul_comm (n - i) n, Int.mul_comm i n, Int.mul_assoc, Int.mul_assoc, Int.mul_comm (n - i) a, Int.mul_comm i b]
  rw [e1, Int.mul_ediv_mul_of_pos _ _ (by omega)]
theorem evF_hi {a b d e j n : Int} (ha : Sm a) (hb : Sm b) (hd : Sm d) (he : Sm e) (h1 : 1 ≤ n) (h2 : n ≤ 64) (hj : 0 ≤ j ∧ j ≤ n) : evF a b d e n j n = leZ b e j n := by
  rw [evF_is ha hb hd he h1 h2 (by omega) hj, leZ_is hb he h1 (by omega) hj]
  have e1 : (n - n) * (n - j) * a + n * (n - j) * b + (n - n) * j * d + n * j * e = n * (b * (n - j) + e * j) := by
    rw [Int.sub_self, Int.zero_mul, Int.zero_mul, Int.zero_mul, Int.zero_mul, Int.zero_add, Int.add_zero, Int.mul_add, Int.mul_assoc, Int.mul_assoc, Int.mul_comm (n - j) b, Int.mul_comm j e]
  rw [e1, Int.mul_ediv_mul_of_pos _ _ (by omega)]
theorem bp4 {a b d e : Int} (ha : Sm a) (hb : Sm b) (hd : Sm d) (he : Sm e) :
    (bpL (cx a b d e) 4 ≤ a ∧ a ≤ bpH (cx a b d e) 4) ∧ (bpL (cx a b d e) 4 ≤ b ∧ b ≤ bpH (cx a b d e) 4) ∧ (bpL (cx a b d e) 4 ≤ d ∧ d ≤ bpH (cx a b d e) 4) ∧ (bpL (cx a b d e) 4 ≤ e ∧ e ≤ bpH (cx a b d e) 4) := by
  have e1 : bpL (cx a b d e) 4 = mnZ (mnZ (mnZ (mnZ (cl a) (cl a)) (cl b)) (cl d)) (cl e) := rfl
  have e2 : bpH (cx a b d e) 4 = mxZ (mxZ (mxZ (mxZ (cl a) (cl a)) (cl b)) (cl d)) (cl e) := rfl
  rw [e1, e2, ha.cl, hb.cl, hd.cl, he.cl]
  unfold mnZ mxZ
  omega
theorem has_t {a b c d e f x y z : Int} (h1 : a ≤ x ∧ x ≤ d) (h2 : b ≤ y ∧ y ≤ e) (h3 : c ≤ z ∧ z ≤ f) : hasB a b c d e f x y z = true := by
  unfold hasB; rw [leB_mk ⟨h1.1, h2.1, h3.1⟩, leB_mk ⟨h1.2, h2.2, h3.2⟩]; rfl
theorem smv_vb {v : V3} (h : SmV v) : vb v.1 v.2.1 v.2.2 = true := by
  unfold SmV at h
  exact vb_iff.2 ⟨by omega, by omega, by omega⟩
theorem parFmtQ {us : List V3} (hl : us.length = 4) (hs : ∀ u ∈ us, SmV u) (w : World) (hT : Tab w) (hE : Errs w) :
    Calls Tryd.prog 9 #[.string (txQ us)] w fun e w' => e = .returned (.tuple #[.agg (cells4 us), .bool true]) ∧ Below w.heap.size w w' := by
  have hv : ∀ i, i < 4 → vb (vat us i).1 (vat us i).2.1 (vat us i).2.2 = true := fun i hi => smv_vb (hs _ (vat_mem (by omega)))
  have hd := txQ_valid (vs := us) ⟨hv 0 (by omega), hv 1 (by omega), hv 2 (by omega), hv 3 (by omega)⟩
  have hsz : (txQ us).size ≤ 1048576 := by
    have h1 : (txQ us).size = (joinL [32] (tx4 us)).length := by rw [← hd]; simp
    have h2 : ∀ x y z, (fmtV x y z).length ≤ 256 := fun x y z => by
      have h := txV_size x y z
      unfold txV at h
      have h' : (fmtV x y z).toArray.size ≤ 256 := h
      simpa using h'
    have a0 := h2 (vat us 0).1 (vat us 0).2.1 (vat us 0).2.2
    have a1 := h2 (vat us 1).1 (vat us 1).2.1 (vat us 1).2.2
    have a2 := h2 (vat us 2).1 (vat us 2).2.1 (vat us 2).2.2
    have a3 := h2 (vat us 3).1 (vat us 3).2.1 (vat us 3).2.2
    have h3 : (joinL [32] (tx4 us)).length = (fmtV (vat us 0).1 (vat us 0).2.1 (vat us 0).2.2).length + (1 + ((fmtV (vat us 1).1 (vat us 1).2.1 (vat us 1).2.2).length + (1 + ((fmtV (vat us 2).1 (vat us 2).2.1 (vat us 2).2.2).length + (1 + (fmtV (vat us 3).1 (vat us 3).2.1 (vat us 3).2.2).length))))) := by
      simp [tx4, joinL]; omega
    omega
  have hq : patOf (txQ us).data.toList = some us := by
    refine patOf_ok ?_ hl
    rw [hd, split_tx4]
    have := allVecs_fmt (vs := us) (fun v hm => smv_vb (hs v hm))
    rw [four_of hl] at this
    unfold tx4
    rw [four_of hl]
    exact this
  refine (parPatI (txQ us) hsz w hT hE).mono ?_
  rintro e w' ⟨rfl, hb⟩
  rw [patV_some hq]
  exact ⟨rfl, hb⟩
/-- What the law's calls answer at a small patch. -/
theorem patch_small {us : List V3} (hl : us.length = 4) (hs : ∀ u ∈ us, SmV u) {n i j : Int} (h1 : 1 ≤ n) (h2 : n ≤ 8) (hi : 0 ≤ i ∧ i ≤ n) (hj : 0 ≤ j ∧ j ≤ n) : ∃ v0 v1 v2 g0 g1 g2 e0 e1 e2 t0 t1 t2 t3 t4 t5 : Int,
    (∀ w, Calls Tryd.prog 36 #[.agg (cells4 us), .int .i64 i, .int .i64 j, .int .i64 n] w fun r w' => r = .returned (.agg #[.int .i64 (v0), .int .i64 (v1), .int .i64 (v2)]) ∧ Below w.heap.size w w') ∧
    (∀ w, Calls Tryd.prog 36 #[.agg (cells4 us), .int .i64 (2 * i), .int .i64 (2 * j), .int .i64 (2 * n)] w fun r w' => r = .returned (.agg #[.int .i64 (v0), .int .i64 (v1), .int .i64 (v2)]) ∧ Below w.heap.size w w') ∧
    (∀ w, Calls Tryd.prog 39 #[.agg (cells4 us)] w fun r w' => r = .returned (.agg #[.int .i64 (t0), .int .i64 (t1), .int .i64 (t2), .int .i64 (t3), .int .i64 (t4), .int .i64 (t5)]) ∧ Below w.heap.size w w') ∧
    (∀ w, Calls Tryd.prog 38 #[.agg #[.int .i64 (t0), .int .i64 (t1), .int .i64 (t2), .int .i64 (t3), .int .i64 (t4), .int .i64 (t5)], .agg #[.int .i64 (v0), .int .i64 (v1), .int .i64 (v2)]] w fun r w' => r = .returned (.bool true) ∧ Below w.heap.size w w') ∧
    (∀ w, Calls Tryd.prog 40 #[.agg (cells4 us), .int .i64 0, .int .i64 i, .int .i64 n] w fun r w' => r = .returned (.agg #[.int .i64 (g0), .int .i64 (g1), .int .i64 (g2)]) ∧ Below w.heap.size w w') ∧
    (∀ w, Calls Tryd.prog 36 #[.agg (cells4 us), .int .i64 i, .int .i64 0, .int .i64 n] w fun r w' => r = .returned (.agg #[.int .i64 (g0), .int .i64 (g1), .int .i64 (g2)]) ∧ Below w.heap.size w w') ∧
    (∀ w, Calls Tryd.prog 40 #[.agg (cells4 us), .int .i64 3, .int .i64 j, .int .i64 n] w fun r w' => r = .returned (.agg #[.int .i64 (e0), .int .i64 (e1), .int .i64 (e2)]) ∧ Below w.heap.size w w') ∧
    (∀ w, Calls Tryd.prog 36 #[.agg (cells4 us), .int .i64 n, .int .i64 j, .int .i64 n] w fun r w' => r = .returned (.agg #[.int .i64 (e0), .int .i64 (e1), .int .i64 (e2)]) ∧ Below w.heap.size w w') := by
  have hv : ∀ i, i < 4 → SmV (vat us i) := fun i hi => hs _ (vat_mem (by omega))
  have k0 := hv 0 (by omega)
  have k1 := hv 1 (by omega)
  have k2 := hv 2 (by omega)
  have k3 := hv 3 (by omega)
  unfold SmV at k0 k1 k2 k3
  have x0 : Sm (vat us 0).1 := k0.1
  have x1 : Sm (vat us 1).1 := k1.1
  have x2 : Sm (vat us 2).1 := k2.1
  have x3 : Sm (vat us 3).1 := k3.1
  obtain ⟨bx0, bx1, bx2, bx3⟩ := bp4 x0 x1 x2 x3
  have y0 : Sm (vat us 0).2.1 := k0.2.1
  have y1 : Sm (vat us 1).2.1 := k1.2.1
  have y2 : Sm (vat us 2).2.1 := k2.2.1
  have y3 : Sm (vat us 3).2.1 := k3.2.1
  obtain ⟨bj0, bj1, bj2, bj3⟩ := bp4 y0 y1 y2 y3
  have z0 : Sm (vat us 0).2.2 := k0.2.2
  have z1 : Sm (vat us 1).2.2 := k1.2.2
  have z2 : Sm (vat us 2).2.2 := k2.2.2
  have z3 : Sm (vat us 3).2.2 := k3.2.2
  obtain ⟨bz0, bz1, bz2, bz3⟩ := bp4 z0 z1 z2 z3
  refine ⟨_, _, _, _, _, _, _, _, _, _, _, _, _, _, _, fun w => evalPatchI _ _ _ _ _ _ _ _ _ _ _ _ i j n w, fun w => ?_, fun w => patchBoundsI _ _ _ _ _ _ _ _ _ _ _ _ w, fun w => ?_, fun w => edgeI _ _ _ _ _ _ _ _ _ _ _ _ 0 i n w, fun w => ?_, fun w => edgeI _ _ _ _ _ _ _ _ _ _ _ _ 3 j n w, fun w => ?_⟩
  · have h := evalPatchI (vat us 0).1 (vat us 0).2.1 (vat us 0).2.2 (vat us 1).1 (vat us 1).2.1 (vat us 1).2.2 (vat us 2).1 (vat us 2).2.1 (vat us 2).2.2 (vat us 3).1 (vat us 3).2.1 (vat us 3).2.2 (2 * i) (2 * j) (2 * n) w
    rw [evF_fine x0 x1 x2 x3 h1 (by omega) hi hj, evF_fine y0 y1 y2 y3 h1 (by omega) hi hj, evF_fine z0 z1 z2 z3 h1 (by omega) hi hj] at h
    exact h
  · have h := boxContainsI (bpL (cx (vat us 0).1 (vat us 1).1 (vat us 2).1 (vat us 3).1) 4) (bpL (cx (vat us 0).2.1 (vat us 1).2.1 (vat us 2).2.1 (vat us 3).2.1) 4) (bpL (cx (vat us 0).2.2 (vat us 1).2.2 (vat us 2).2.2 (vat us 3).2.2) 4) (bpH (cx (vat us 0).1 (vat us 1).1 (vat us 2).1 (vat us 3).1) 4) (bpH (cx (vat us 0).2.1 (vat us 1).2.1 (vat us 2).2.1 (vat us 3).2.1) 4) (bpH (cx (vat us 0).2.2 (vat us 1).2.2 (vat us 2).2.2 (vat us 3).2.2) 4)
      (evF (vat us 0).1 (vat us 1).1 (vat us 2).1 (vat us 3).1 i j n) (evF (vat us 0).2.1 (vat us 1).2.1 (vat us 2).2.1 (vat us 3).2.1 i j n) (evF (vat us 0).2.2 (vat us 1).2.2 (vat us 2).2.2 (vat us 3).2.2 i j n) w
    rw [has_t (evF_in x0 x1 x2 x3 h1 (by omega) hi hj bx0 bx1 bx2 bx3) (evF_in y0 y1 y2 y3 h1 (by omega) hi hj bj0 bj1 bj2 bj3) (evF_in z0 z1 z2 z3 h1 (by omega) hi hj bz0 bz1 bz2 bz3)] at h
    exact h
  · have h := evalPatchI (vat us 0).1 (vat us 0).2.1 (vat us 0).2.2 (vat us 1).1 (vat us 1).2.1 (vat us 1).2.2 (vat us 2).1 (vat us 2).2.1 (vat us 2).2.2 (vat us 3).1 (vat us 3).2.1 (vat us 3).2.2 i 0 n w
    rw [evF_lo x0 x1 x2 x3 h1 (by omega) hi, evF_lo y0 y1 y2 y3 h1 (by omega) hi, evF_lo z0 z1 z2 z3 h1 (by omega) hi, ← edZ_0, ← edZ_0, ← edZ_0] at h
    exact h
  · have h := evalPatchI (vat us 0).1 (vat us 0).2.1 (vat us 0).2.2 (vat us 1).1 (vat us 1).2.1 (vat us 1).2.2 (vat us 2).1 (vat us 2).2.1 (vat us 2).2.2 (vat us 3).1 (vat us 3).2.1 (vat us 3).2.2 n j n w
    rw [evF_hi x0 x1 x2 x3 h1 (by omega) hj, evF_hi y0 y1 y2 y3 h1 (by omega) hj, evF_hi z0 z1 z2 z3 h1 (by omega) hj, ← edZ_3, ← edZ_3, ← edZ_3] at h
    exact h
end Go.Proofs.YtnibknaemgpjdaaDoor

-- from LawPatches
namespace Go.Proofs.YtnibknaemgpjdaaDoor
open Go Go.RowKit
open Go.ChangeShapes Go.WideShapes Go.ChangeAt

set_option maxRecDepth 100000 in
set_option maxHeartbeats 16000000 in
theorem lawPatches (v : Value) (n : Nat) (bs : Nat → Int) (w : World) (h : BytesAt w w.heap.size v n bs) (hm : n ≤ maxLen) (hT : Tab w) (hE : Errs w) :
    Calls Tryd.prog 7 #[v] w fun e w' => e = .returned (.bool true) ∧ Below w.heap.size w w' := by
  unfold maxLen at hm
  have h0 := h
  obtain ⟨hbs, a, cap, rfl, hc⟩ := h
  clear hbs hc
  by_cases hbig : 1048576 < (n : Int)
  · clear h0 hT hE
    go_enter Tryd.func7, Tryd.ntmps7
    go_wp2
    go_ret
    exact ⟨rfl, Below.refl _ _⟩
  · have hn : n ≤ 1048576 := by omega
    have H0 := Lib.hid h0
    have HT := Lib.hid hT
    have HE := Lib.hid hE
    clear h0 hT hE
    have hB : Below w.heap.size w w := Below.refl _ _
    have hgd := guard_vec
    have hgd2 := guard_patch
    go_enter Tryd.func7, Tryd.ntmps7
    go_wp2_with fail
    clear hbig hm
    refine (makePatch_any 0 _ _ _ n bs (by omega) (by omega) hB.size hn (H0.out.keep hB)).mono ?_
    rintro r w1 ⟨us, rfl, hl, hs, hb⟩
    have HL := Lib.hid hl
    have HS := Lib.hid hs
    clear hl hs
    replace hB := b_keep hb hB
    clear hb
    unfold cells4
    go_wp2_with fail
    have g0 := hB.size
    have b0 := Blk.new w1 26 #[.int .i64 ((vat us 0).1), .int .i64 ((vat us 0).2.1), .int .i64 ((vat us 0).2.2), .int .i64 ((vat us 1).1), .int .i64 ((vat us 1).2.1), .int .i64 ((vat us 1).2.2), .int .i64 ((vat us 2).1), .int .i64 ((vat us 2).2.1), .int .i64 ((vat us 2).2.2), .int .i64 ((vat us 3).1), .int .i64 ((vat us 3).2.1), .int .i64 ((vat us 3).2.2)]
    replace hB := hB.alloc hB.size (.cells #[.int .i64 ((vat us 0).1), .int .i64 ((vat us 0).2.1), .int .i64 ((vat us 0).2.2), .int .i64 ((vat us 1).1), .int .i64 ((vat us 1).2.1), .int .i64 ((vat us 1).2.2), .int .i64 ((vat us 2).1), .int .i64 ((vat us 2).2.1), .int .i64 ((vat us 2).2.2), .int .i64 ((vat us 3).1), .int .i64 ((vat us 3).2.1), .int .i64 ((vat us 3).2.2)] 26)
    generalize w1.heap.size = q0 at b0 g0  ⊢
    generalize w1.alloc (.cells #[.int .i64 ((vat us 0).1), .int .i64 ((vat us 0).2.1), .int .i64 ((vat us 0).2.2), .int .i64 ((vat us 1).1), .int .i64 ((vat us 1).2.1), .int .i64 ((vat us 1).2.2), .int .i64 ((vat us 2).1), .int .i64 ((vat us 2).2.1), .int .i64 ((vat us 2).2.2), .int .i64 ((vat us 3).1), .int .i64 ((vat us 3).2.1), .int .i64 ((vat us 3).2.2)] 26) = W0 at hB b0 ⊢
    have c0 := b0.cell
    have f0 := b0.frozen
    have l0 := b0.lt
    refine (makeNum_any 1 _ _ _ n bs (by omega) (by omega) hB.size hn (H0.out.keep hB)).mono ?_
    rintro r w1 ⟨x, rfl, hx0, hx1, hb⟩
    have hB := (by with_reducible first | exact b_keep hb hB | exact b_keep hb hB.drew)
    replace b0 : Blk w1 _ _ _ := (by with_reducible first | exact Blk.keep hb b0 | exact Blk.keep hb b0.drew)
    replace l0 := b0.lt
    replace c0 := b0.cell
    replace f0 := b0.frozen
    clear hb
    have hm1 := emod_in (x := x) (m := 8) (by omega)
    go_wp2_with fail
    obtain ⟨m, hm⟩ : ∃ m, 1 + x % 8 = m := ⟨_, rfl⟩
    rw [hm]
    have hm0 : 1 ≤ m := by omega
    have hm8 : m ≤ 8 := by omega
    clear hm1 hm hx0 hx1
    refine (makeNum_any 2 _ _ _ n bs (by omega) (by omega) hB.size hn (H0.out.keep hB)).mono ?_
    rintro r w1 ⟨y, rfl, hx0, hx1, hb⟩
    have hB := (by with_reducible first | exact b_keep hb hB | exact b_keep hb hB.drew)
    replace b0 : Blk w1 _ _ _ := (by with_reducible first | exact Blk.keep hb b0 | exact Blk.keep hb b0.drew)
    replace l0 := b0.lt
    replace c0 := b0.cell
    replace f0 := b0.frozen
    clear hb
    have hm1 := emod_in (x := y) (m := m + 1) (by omega)
    go_wp2_with fail
    obtain ⟨i, hi⟩ : ∃ i, y % (m + 1) = i := ⟨_, rfl⟩
    rw [hi]
    have hi0 : 0 ≤ i := by omega
    have him : i ≤ m := by omega
    clear hm1 hi hx0 hx1
    refine (makeNum_any 3 _ _ _ n bs (by omega) (by omega) hB.size hn (H0.out.keep hB)).mono ?_
    rintro r w1 ⟨z, rfl, hx0, hx1, hb⟩
    have hB := (by with_reducible first | exact b_keep hb hB | exact b_keep hb hB.drew)
    replace b0 : Blk w1 _ _ _ := (by with_reducible first | exact Blk.keep hb b0 | exact Blk.keep hb b0.drew)
    replace l0 := b0.lt
    replace c0 := b0.cell
    replace f0 := b0.frozen
    clear hb
    have hm1 := emod_in (x := z) (m := m + 1) (by omega)
    obtain ⟨v0, v1, v2, p0, p1, p2, r0, r1, r2, t0, t1, t2, t3, t4, t5, q1, q2, q3, q4, q5, q6, q7, q8⟩ := patch_small HL.out HS.out (n := m) (i := i) (j := z % (m + 1)) hm0 hm8 ⟨hi0, him⟩ (by omega)
    obtain ⟨j, hj⟩ : ∃ j, z % (m + 1) = j := ⟨_, rfl⟩
    have hj0 : 0 ≤ j := by omega
    have hjm : j ≤ m := by omega
    rw [hj] at q1 q2 q7 q8
    have HV := Lib.hid (fun w => parFmtQ HL.out HS.out w)
    unfold cells4 at q1 q2 q3 q5 q6 q7 q8 HV
    have G1 := Lib.hid q1
    have u1 : IntKind.i64.wrap (2 * i) = 2 * i := wrapB (by omega) (by omega)
    have u2 : IntKind.i64.wrap (2 * j) = 2 * j := wrapB (by omega) (by omega)
    have u3 : IntKind.i64.wrap (2 * m) = 2 * m := wrapB (by omega) (by omega)
    rw [← u1, ← u2, ← u3] at q2
    have G2 := Lib.hid q2
    clear u1 u2 u3
    have G3 := Lib.hid q3
    have G4 := Lib.hid q4
    have G5 := Lib.hid q5
    have G6 := Lib.hid q6
    have G7 := Lib.hid q7
    have G8 := Lib.hid q8
    clear q1 q2 q3 q4 q5 q6 q7 q8
    have HJ := Lib.hid hj
    clear hj
    go_wp2_with fail
    rw [HJ.out]
    clear hm1 HJ hx0 hx1
    refine (G1.out _).mono ?_
    rintro e w1 ⟨rfl, hb⟩
    have hB := (by with_reducible first | exact b_keep hb hB | exact b_keep hb hB.drew)
    replace b0 : Blk w1 _ _ _ := (by with_reducible first | exact Blk.keep hb b0 | exact Blk.keep hb b0.drew)
    replace l0 := b0.lt
    replace c0 := b0.cell
    replace f0 := b0.frozen
    clear hb
    go_wp2_with fail
    have d1_0 := b0.lt
    have g1 := hB.size
    replace b0 := b0.alloc (.cells #[.int .i64 (v0), .int .i64 (v1), .int .i64 (v2)] 23)
    have b1 := Blk.new w1 23 #[.int .i64 (v0), .int .i64 (v1), .int .i64 (v2)]
    replace hB := hB.alloc hB.size (.cells #[.int .i64 (v0), .int .i64 (v1), .int .i64 (v2)] 23)
    clear c0 f0 l0
    generalize w1.heap.size = q1 at b1 g1 d1_0 ⊢
    generalize w1.alloc (.cells #[.int .i64 (v0), .int .i64 (v1), .int .i64 (v2)] 23) = W1 at hB b0 b1 ⊢
    have c0 := b0.cell
    have f0 := b0.frozen
    have l0 := b0.lt
    have c1 := b1.cell
    have f1 := b1.frozen
    have l1 := b1.lt
    have HF := Lib.hid (fmtPatchI (vat us 0).1 (vat us 0).2.1 (vat us 0).2.2 (vat us 1).1 (vat us 1).2.1 (vat us 1).2.2 (vat us 2).1 (vat us 2).2.1 (vat us 2).2.2 (vat us 3).1 (vat us 3).2.1 (vat us 3).2.2 W1 (HT.out.keep hB))
    have HP : ∀ w', Below w.heap.size w w' → Hid (Calls Tryd.prog 9 #[.string (txQ us)] w' fun e w2 => e = .returned (.tuple #[.agg #[.int .i64 ((vat us 0).1), .int .i64 ((vat us 0).2.1), .int .i64 ((vat us 0).2.2), .int .i64 ((vat us 1).1), .int .i64 ((vat us 1).2.1), .int .i64 ((vat us 1).2.2), .int .i64 ((vat us 2).1), .int .i64 ((vat us 2).2.1), .int .i64 ((vat us 2).2.2), .int .i64 ((vat us 3).1), .int .i64 ((vat us 3).2.1), .int .i64 ((vat us 3).2.2)], .bool true]) ∧ Below w'.heap.size w' w2) := fun w' hb => HV.out w' (HT.out.keep hb) (HE.out.keep hb)
    unfold txQ at HP
    generalize txP (vat us 0).1 (vat us 0).2.1 (vat us 0).2.2 (vat us 1).1 (vat us 1).2.1 (vat us 1).2.2 (vat us 2).1 (vat us 2).2.1 (vat us 2).2.2 (vat us 3).1 (vat us 3).2.1 (vat us 3).2.2 = tx at HF HP
    refine HF.out.mono ?_
    rintro e w1 ⟨rfl, hb⟩
    have hB := (by with_reducible first | exact b_keep hb hB | exact b_keep hb hB.drew)
    replace b0 : Blk w1 _ _ _ := (by with_reducible first | exact Blk.keep hb b0 | exact Blk.keep hb b0.drew)
    replace b1 : Blk w1 _ _ _ := (by with_reducible first | exact Blk.keep hb b1 | exact Blk.keep hb b1.drew)
    replace l0 := b0.lt
    replace l1 := b1.lt
    replace c0 := b0.cell
    replace c1 := b1.cell
    replace f0 := b0.frozen
    replace f1 := b1.frozen
    clear hb
    have HC := HP _ hB
    go_wp2_with fail
    refine HC.out.mono ?_
    rintro e w1 ⟨rfl, hb⟩
    have hB := (by with_reducible first | exact b_keep hb hB | exact b_keep hb hB.drew)
    replace b0 : Blk w1 _ _ _ := (by with_reducible first | exact Blk.keep hb b0 | exact Blk.keep hb b0.drew)
    replace b1 : Blk w1 _ _ _ := (by with_reducible first | exact Blk.keep hb b1 | exact Blk.keep hb b1.drew)
    replace l0 := b0.lt
    replace l1 := b1.lt
    replace c0 := b0.cell
    replace c1 := b1.cell
    replace f0 := b0.frozen
    replace f1 := b1.frozen
    clear hb
    clear HC HP HF HV HT HE H0 HL HS
    have ev := fun W => eqv_same v0 v1 v2 W
    have ev1 := fun W => eqv_same p0 p1 p2 W
    have ev2 := fun W => eqv_same r0 r1 r2 W
    have ev3 := fun W => eqp_same us W
    unfold cells4 at ev3
    go_upto_region 9 with fail
    have d2_0 := b0.lt
    have d2_1 := b1.lt
    have g2 := hB.size
    replace b0 := b0.alloc (.cells #[.int .i64 ((vat us 0).1), .int .i64 ((vat us 0).2.1), .int .i64 ((vat us 0).2.2), .int .i64 ((vat us 1).1), .int .i64 ((vat us 1).2.1), .int .i64 ((vat us 1).2.2), .int .i64 ((vat us 2).1), .int .i64 ((vat us 2).2.1), .int .i64 ((vat us 2).2.2), .int .i64 ((vat us 3).1), .int .i64 ((vat us 3).2.1), .int .i64 ((vat us 3).2.2)] 26)
    replace b1 := b1.alloc (.cells #[.int .i64 ((vat us 0).1), .int .i64 ((vat us 0).2.1), .int .i64 ((vat us 0).2.2), .int .i64 ((vat us 1).1), .int .i64 ((vat us 1).2.1), .int .i64 ((vat us 1).2.2), .int .i64 ((vat us 2).1), .int .i64 ((vat us 2).2.1), .int .i64 ((vat us 2).2.2), .int .i64 ((vat us 3).1), .int .i64 ((vat us 3).2.1), .int .i64 ((vat us 3).2.2)] 26)
    have b2 := Blk.new w1 26 #[.int .i64 ((vat us 0).1), .int .i64 ((vat us 0).2.1), .int .i64 ((vat us 0).2.2), .int .i64 ((vat us 1).1), .int .i64 ((vat us 1).2.1), .int .i64 ((vat us 1).2.2), .int .i64 ((vat us 2).1), .int .i64 ((vat us 2).2.1), .int .i64 ((vat us 2).2.2), .int .i64 ((vat us 3).1), .int .i64 ((vat us 3).2.1), .int .i64 ((vat us 3).2.2)]
    replace hB := hB.alloc hB.size (.cells #[.int .i64 ((vat us 0).1), .int .i64 ((vat us 0).2.1), .int .i64 ((vat us 0).2.2), .int .i64 ((vat us 1).1), .int .i64 ((vat us 1).2.1), .int .i64 ((vat us 1).2.2), .int .i64 ((vat us 2).1), .int .i64 ((vat us 2).2.1), .int .i64 ((vat us 2).2.2), .int .i64 ((vat us 3).1), .int .i64 ((vat us 3).2.1), .int .i64 ((vat us 3).2.2)] 26)
    clear c0 f0 l0 c1 f1 l1
    generalize w1.heap.size = q2 at b2 g2 d2_0 d2_1 ⊢
    generalize w1.alloc (.cells #[.int .i64 ((vat us 0).1), .int .i64 ((vat us 0).2.1), .int .i64 ((vat us 0).2.2), .int .i64 ((vat us 1).1), .int .i64 ((vat us 1).2.1), .int .i64 ((vat us 1).2.2), .int .i64 ((vat us 2).1), .int .i64 ((vat us 2).2.1), .int .i64 ((vat us 2).2.2), .int .i64 ((vat us 3).1), .int .i64 ((vat us 3).2.1), .int .i64 ((vat us 3).2.2)] 26) = W2 at hB b0 b1 b2 ⊢
    have c0 := b0.cell
    have f0 := b0.frozen
    have l0 := b0.lt
    have c1 := b1.cell
    have f1 := b1.frozen
    have l1 := b1.lt
    have c2 := b2.cell
    have f2 := b2.frozen
    have l2 := b2.lt
    go_region_held3 (fun w' => (∀ i, w'.cell? ⟨q0, i, none⟩ = (#[.int .i64 ((vat us 0).1), .int .i64 ((vat us 0).2.1), .int .i64 ((vat us 0).2.2), .int .i64 ((vat us 1).1), .int .i64 ((vat us 1).2.1), .int .i64 ((vat us 1).2.2), .int .i64 ((vat us 2).1), .int .i64 ((vat us 2).2.1), .int .i64 ((vat us 2).2.2), .int .i64 ((vat us 3).1), .int .i64 ((vat us 3).2.1), .int .i64 ((vat us 3).2.2)] : Array Value)[i]?) ∧ (∀ i, w'.cell? ⟨q1, i, none⟩ = (#[.int .i64 (v0), .int .i64 (v1), .int .i64 (v2)] : Array Value)[i]?) ∧ (∀ i, w'.cell? ⟨q2, i, none⟩ = (#[.int .i64 ((vat us 0).1), .int .i64 ((vat us 0).2.1), .int .i64 ((vat us 0).2.2), .int .i64 ((vat us 1).1), .int .i64 ((vat us 1).2.1), .int .i64 ((vat us 1).2.2), .int .i64 ((vat us 2).1), .int .i64 ((vat us 2).2.1), .int .i64 ((vat us 2).2.2), .int .i64 ((vat us 3).1), .int .i64 ((vat us 3).2.1), .int .i64 ((vat us 3).2.2)] : Array Value)[i]?)) (first | with_reducible exact ⟨b0.cell, b1.cell, b2.cell⟩ | with_reducible exact ⟨b0.drew.cell, b1.drew.cell, b2.drew.cell⟩ | with_reducible exact ⟨(b0.alloc _).cell, (b1.alloc _).cell, (b2.alloc _).cell⟩ | with_reducible exact ⟨(b0.alloc _).drew.cell, (b1.alloc _).drew.cell, (b2.alloc _).drew.cell⟩ | exact ⟨(b0.far3 (by omega) _ _ _).cell, (b1.far3 (by omega) _ _ _).cell, (b2.far3 (by omega) _ _ _).cell⟩ | exact ⟨(b0.far3 (by omega) _ _ _).drew.cell, (b1.far3 (by omega) _ _ _).drew.cell, (b2.far3 (by omega) _ _ _).drew.cell⟩ | go_keep)
      (first
        | (go_at_call 36; (first | (with_reducible refine (G2.out _).mono ?_) | (with_reducible refine (G6.out _).mono ?_) | (with_reducible refine (G8.out _).mono ?_)); rintro e w1 ⟨rfl, hb⟩; have hB := (by with_reducible first | exact b_keep hb hB | exact b_keep hb hB.drew); replace b0 : Blk w1 _ _ _ := (by with_reducible first | exact Blk.keep hb b0 | exact Blk.keep hb b0.drew); replace b1 : Blk w1 _ _ _ := (by with_reducible first | exact Blk.keep hb b1 | exact Blk.keep hb b1.drew); replace b2 : Blk w1 _ _ _ := (by with_reducible first | exact Blk.keep hb b2 | exact Blk.keep hb b2.drew); replace l0 := b0.lt; replace l1 := b1.lt; replace l2 := b2.lt; replace c0 := b0.cell; replace c1 := b1.cell; replace c2 := b2.cell; replace f0 := b0.frozen; replace f1 := b1.frozen; replace f2 := b2.frozen)
        | (go_at_call 39; with_reducible refine (G3.out _).mono ?_; rintro e w1 ⟨rfl, hb⟩; have hB := (by with_reducible first | exact b_keep hb hB | exact b_keep hb hB.drew); replace b0 : Blk w1 _ _ _ := (by with_reducible first | exact Blk.keep hb b0 | exact Blk.keep hb b0.drew); replace b1 : Blk w1 _ _ _ := (by with_reducible first | exact Blk.keep hb b1 | exact Blk.keep hb b1.drew); replace b2 : Blk w1 _ _ _ := (by with_reducible first | exact Blk.keep hb b2 | exact Blk.keep hb b2.drew); replace l0 := b0.lt; replace l1 := b1.lt; replace l2 := b2.lt; replace c0 := b0.cell; replace c1 := b1.cell; replace c2 := b2.cell; replace f0 := b0.frozen; replace f1 := b1.frozen; replace f2 := b2.frozen)
        | (go_at_call 38; with_reducible refine (G4.out _).mono ?_; rintro e w1 ⟨rfl, hb⟩; have hB := (by with_reducible first | exact b_keep hb hB | exact b_keep hb hB.drew); replace b0 : Blk w1 _ _ _ := (by with_reducible first | exact Blk.keep hb b0 | exact Blk.keep hb b0.drew); replace b1 : Blk w1 _ _ _ := (by with_reducible first | exact Blk.keep hb b1 | exact Blk.keep hb b1.drew); replace b2 : Blk w1 _ _ _ := (by with_reducible first | exact Blk.keep hb b2 | exact Blk.keep hb b2.drew); replace l0 := b0.lt; replace l1 := b1.lt; replace l2 := b2.lt; replace c0 := b0.cell; replace c1 := b1.cell; replace c2 := b2.cell; replace f0 := b0.frozen; replace f1 := b1.frozen; replace f2 := b2.frozen)
        | (go_at_call 40; (first | (with_reducible refine (G5.out _).mono ?_) | (with_reducible refine (G7.out _).mono ?_)); rintro e w1 ⟨rfl, hb⟩; have hB := (by with_reducible first | exact b_keep hb hB | exact b_keep hb hB.drew); replace b0 : Blk w1 _ _ _ := (by with_reducible first | exact Blk.keep hb b0 | exact Blk.keep hb b0.drew); replace b1 : Blk w1 _ _ _ := (by with_reducible first | exact Blk.keep hb b1 | exact Blk.keep hb b1.drew); replace b2 : Blk w1 _ _ _ := (by with_reducible first | exact Blk.keep hb b2 | exact Blk.keep hb b2.drew); replace l0 := b0.lt; replace l1 := b1.lt; replace l2 := b2.lt; replace c0 := b0.cell; replace c1 := b1.cell; replace c2 := b2.cell; replace f0 := b0.frozen; replace f1 := b1.frozen; replace f2 := b2.frozen))
    clear c0 c1 c2 f0 f1 f2
    go_wp2
    go_ret
    exact ⟨rfl, hB⟩

set_option maxRecDepth 100000 in
theorem FnPatches_run {H : Type} {enc : TypeId × Value → H} (W : World) (base : Nat) (args : Array Value) (ds : List (DataW H)) (p : List MemPlace)
    (hL : laidMetH Tryd.prog laid5 W) (hl : args.toList.length = Tryd.f7.params.toList.length)
    (hval : ∀ (j : Nat) t v, Tryd.f7.params[j]? = some t → args[j]? = some v → Value.okWide Tryd.prog W .any base t v)
    (hA : DataW.TrodAll enc Tryd.prog W 0 (fun _ => true) true Tryd.f7.params.toList args.toList ds p) :
    Calls Tryd.prog 7 args W fun e w' => e = .returned (.bool true) ∧ Below W.heap.size W w' := by
  rw [Tryd.params7] at hl hval hA
  obtain ⟨v0, d0, rfl, rfl, h0⟩ := trodAll_one hA
  obtain ⟨n, bs, hx, hm⟩ := open_bytes Tryd.underlying37 Tryd.underlying5 (by kernel_rfl) (hval 0 37 v0 rfl rfl) h0
  exact lawPatches v0 n bs W hx hm (tab_of5 hL) (errs_of5 hL)

set_option maxRecDepth 100000 in
theorem FnPatches_lifted (os : Os) (started : os.Started) (H : Type) (enc : TypeId × Value → H) :
    ReturnsInHanded {} Tryd.checked os 7 .any (fun w args => (Rows.fnPatchesSpec.pre enc Tryd.prog Tryd.f7 [] false w args ∧ laidMetH Tryd.prog laid5 w) ∧ sizedMet enc Tryd.prog Tryd.f7 (OpenSpec.ofChange Rows.fnPatchesSpec) false w args)
      (Rows.fnPatchesSpec.post enc Tryd.prog Tryd.f7 false true false false) := by
  refine returnsInHanded_of_change_and (C := Tryd.checked) (X := fun w _ => laidMetH Tryd.prog laid5 w) (fun _ _ _ hh h => h.of_heap hh) own started (by kernel_rfl) Tryd.func7
    (ChangeSpec.witness_shaped (enc := enc) (C := Tryd.checked) (os := os) (X := fun w _ => laidMetH Tryd.prog laid5 w) false (World.doorLaid Tryd.prog 62 os) #[.slice none 0 0] 8 rfl (World.shaped_of_RefB (by kernel_rfl) (by kernel_rfl)) (by kernel_rfl) (by kernel_rfl) (by kernel_rfl) (door5_met os _)) ?_
  intro W base args ds gs before hval hW _ _ hL _
  exact Fr.contractAt (P := Tryd.prog) (tb := 4) laidOut (by kernel_rfl) rfl rfl (by kernel_rfl) (fun ds hl => by match ds, hl with | [_], _ => rfl) W base args (fun ds p => FnPatches_run W base args ds p hL) ds gs before hval hW

theorem FnPatches_row : Rows.FnPatchesSaid :=
  OpenClaim.holds_of_wide 7 Tryd.f7 rfl rfl rfl rfl rfl rfl rfl ⟨rfl, rfl, rfl, rfl, rfl⟩ rfl rfl rfl rfl rfl (by kernel_rfl) Tryd.func7 (by kernel_rfl)
    (of_decide_eq_true (by kernel_rfl)) (by unfold Func.isWrapper; first | (rw [if_pos (by decide +kernel)]; kernel_rfl) | (rw [if_neg (by decide +kernel)]; exact ⟨rfl, rfl⟩))
    (fun os started H enc _ => FnPatches_lifted os started H enc)

theorem FnPatches_holds : Rows.FnPatchesCardSaid :=
  Claim7.holds_tied_plain_at .later [] _ true _ _ FnPatches_row (fun _ h => by cases h) (by kernel_rfl) (fun _ h => by cases h) fnPatches_row_tie rfl ⟨rfl, rfl⟩ (by kernel_rfl) rfl
    (fun f fn hf hfn => by
      obtain rfl : f = 7 := Option.some.inj ((show Tryd.prog.funcNamed Rows.fnPatchesRow.func = some 7 by kernel_rfl).symm.trans hf) |>.symm
      obtain rfl : fn = Tryd.f7 := (Option.some.inj (Tryd.func7.symm.trans hfn)).symm
      exact ⟨by kernel_rfl, fun j t ht => by
        have hm : t ∈ Tryd.f7.params.toList := by simpa using Array.mem_of_getElem? ht
        have hall : (Tryd.f7.params.toList.all fun u => !Tryd.prog.wantsStandIn u) = true := by kernel_rfl
        exact (show Tryd.prog.wantsStandIn t = false by simpa using List.all_eq_true.1 hall t hm)⟩)
    (by kernel_rfl)
#print axioms FnPatches_holds
end Go.Proofs.YtnibknaemgpjdaaDoor
