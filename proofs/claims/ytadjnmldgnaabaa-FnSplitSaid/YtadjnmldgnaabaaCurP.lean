/- What the reference draws from a cursor: patches. -/
import Derived.Test.YtadjnmldgnaabaaCur2
import Derived.Test.YtadjnmldgnaabaaPatB
namespace Go.Proofs.Ytadjnmldgnaabaa
open Go Go.RowKit

theorem Cur.at3 {w : World} {B g : Nat} {v : Value} {n : Nat} {bs : Nat → Int} (h : Cur w B g v n bs) {q : Nat} (hk : g < q) (i j k : Nat) (a b c : Value) :
    Cur (((w.setCell ⟨q, i, none⟩ a).setCell ⟨q, j, none⟩ b).setCell ⟨q, k, none⟩ c) B g v n bs := by
  obtain ⟨h1, h2, m, x, h3, h4, h5⟩ := h
  exact ⟨h1, h2.keep (below_at3 (Below.refl B w) (by omega) i j k a b c), m, x, h3, h4, blk_far3 h5 (by omega) i j k a b c⟩
theorem Cur.row12 {w : World} {B g : Nat} {v : Value} {n : Nat} {bs : Nat → Int} (h : Cur w B g v n bs) {q : Nat} (hk : g < q) (x0 x1 x2 x3 x4 x5 x6 x7 x8 x9 x10 x11 : Value) :
    Cur (((((((((((((w.setCell ⟨q, 0, none⟩ x0).setCell ⟨q, 1, none⟩ x1).setCell ⟨q, 2, none⟩ x2).setCell ⟨q, 3, none⟩ x3).setCell ⟨q, 4, none⟩ x4).setCell ⟨q, 5, none⟩ x5).setCell ⟨q, 6, none⟩ x6).setCell ⟨q, 7, none⟩ x7).setCell ⟨q, 8, none⟩ x8).setCell ⟨q, 9, none⟩ x9).setCell ⟨q, 10, none⟩ x10).setCell ⟨q, 11, none⟩ x11)) B g v n bs := by
  obtain ⟨h1, h2, m, x, h3, h4, h5⟩ := h
  exact ⟨h1, h2.keep (below_row12 (Below.refl B w) (by omega) x0 x1 x2 x3 x4 x5 x6 x7 x8 x9 x10 x11), m, x, h3, h4, ((((((((((((h5.far (p := ⟨q, 0, none⟩) (show g ≠ q by omega) x0).far (p := ⟨q, 1, none⟩) (show g ≠ q by omega) x1).far (p := ⟨q, 2, none⟩) (show g ≠ q by omega) x2).far (p := ⟨q, 3, none⟩) (show g ≠ q by omega) x3).far (p := ⟨q, 4, none⟩) (show g ≠ q by omega) x4).far (p := ⟨q, 5, none⟩) (show g ≠ q by omega) x5).far (p := ⟨q, 6, none⟩) (show g ≠ q by omega) x6).far (p := ⟨q, 7, none⟩) (show g ≠ q by omega) x7).far (p := ⟨q, 8, none⟩) (show g ≠ q by omega) x8).far (p := ⟨q, 9, none⟩) (show g ≠ q by omega) x9).far (p := ⟨q, 10, none⟩) (show g ≠ q by omega) x10).far (p := ⟨q, 11, none⟩) (show g ≠ q by omega) x11)⟩
theorem Turn.at3 {g : Nat} {a w : World} (h : Turn g a w) {q : Nat} (hp : a.heap.size ≤ q) (i j k : Nat) (x y z : Value) :
    Turn g a (((w.setCell ⟨q, i, none⟩ x).setCell ⟨q, j, none⟩ y).setCell ⟨q, k, none⟩ z) :=
  ((h.new_ (p := ⟨q, i, none⟩) hp x).new_ (p := ⟨q, j, none⟩) hp y).new_ (p := ⟨q, k, none⟩) hp z
theorem Turn.row12 {g : Nat} {a w : World} (h : Turn g a w) {q : Nat} (hp : a.heap.size ≤ q) (x0 x1 x2 x3 x4 x5 x6 x7 x8 x9 x10 x11 : Value) :
    Turn g a (((((((((((((w.setCell ⟨q, 0, none⟩ x0).setCell ⟨q, 1, none⟩ x1).setCell ⟨q, 2, none⟩ x2).setCell ⟨q, 3, none⟩ x3).setCell ⟨q, 4, none⟩ x4).setCell ⟨q, 5, none⟩ x5).setCell ⟨q, 6, none⟩ x6).setCell ⟨q, 7, none⟩ x7).setCell ⟨q, 8, none⟩ x8).setCell ⟨q, 9, none⟩ x9).setCell ⟨q, 10, none⟩ x10).setCell ⟨q, 11, none⟩ x11)) :=
  ((((((((((((h.new_ (p := ⟨q, 0, none⟩) hp x0).new_ (p := ⟨q, 1, none⟩) hp x1).new_ (p := ⟨q, 2, none⟩) hp x2).new_ (p := ⟨q, 3, none⟩) hp x3).new_ (p := ⟨q, 4, none⟩) hp x4).new_ (p := ⟨q, 5, none⟩) hp x5).new_ (p := ⟨q, 6, none⟩) hp x6).new_ (p := ⟨q, 7, none⟩) hp x7).new_ (p := ⟨q, 8, none⟩) hp x8).new_ (p := ⟨q, 9, none⟩) hp x9).new_ (p := ⟨q, 10, none⟩) hp x10).new_ (p := ⟨q, 11, none⟩) hp x11)
theorem smv_snoc {us : List V3} {v : V3} (h : ∀ u ∈ us, SmV u) (hv : SmV v) : ∀ u ∈ us ++ [v], SmV u := fun u hu => by
  rcases List.mem_append.1 hu with h1 | h1
  · exact h u h1
  · obtain rfl := List.mem_singleton.1 h1
    exact hv
theorem results_row {P : Program} {fn : Func} {p : Tmp} {ty : TypeId} (h : fn.results = #[.cell p ty]) (tmps : Array Value) (w : World) (g : Nat) (t : TypeId) (cs : Array Value) (d : TypeDesc)
    (hp : tmps.getD p undef = .pointer (some ⟨g, 0, none⟩)) (hg : Blk w g t cs)
    (hu : P.underlying ty = some d) (hd : (match d with | .struct _ | .array _ _ => true | _ => false) = true) (hi : (P.info? ty).map (·.size) = some cs.size) :
    (results fn tmps).run P w = .ok (.agg cs) w := results_cell_row h tmps w g t cs (0, 0) d hp hg hu hd hi
def GivesP (B g : Nat) (v : Value) (n : Nat) (bs : Nat → Int) (w : World) (e : Ending) (w' : World) : Prop :=
  ∃ us : List V3, e = .returned (.agg (cells4 us)) ∧ us.length = 4 ∧ (∀ u ∈ us, SmV u) ∧ Cur w' B g v n bs ∧ Turn g w w'
set_option maxRecDepth 100000 in
theorem draw5_end {w W : World} {B g : Nat} {v : Value} {n : Nat} {bs : Nat → Int} {a : Act} {us : List V3} (hb : Blk W w.heap.size 36 (cells4 us)) (hp : a.tmps.getD 2 undef = .pointer (some ⟨w.heap.size, 0, none⟩))
    (hd : a.defers = []) (hl : us.length = 4) (hs : ∀ u ∈ us, SmV u) (hC : Cur W B g v n bs) (hT : Turn g w W) : bodyPost Try.prog Try.f19 (GivesP B g v n bs w) .ret a W :=
  bodyPost_ret (results_row rfl a.tmps W w.heap.size 36 (cells4 us) _ hp hb rfl rfl info_patch) hd ⟨us, rfl, hl, hs, hC, hT⟩
set_option maxHeartbeats 8000000 in
set_option maxRecDepth 100000 in
theorem draw5_any (w : World) (B g : Nat) (v : Value) (n : Nat) (bs : Nat → Int) (h : Cur w B g v n bs) :
    Calls Try.prog 19 #[.pointer (some ⟨g, 0, none⟩)] w (GivesP B g v n bs w) := by
  have hgl := h.lt
  obtain ⟨b0, b1⟩ := blk2 w (cells4 []) (cells4 []) 36 36
  have hC := (h.keep (below1 w (.cells (cells4 []) 36))).keep (below1 _ (.cells (cells4 []) 36))
  have hT : Turn g w ((w.alloc (.cells (cells4 []) 36)).alloc (.cells (cells4 []) 36)) := ((Turn.refl g w).alloc _).alloc _
  clear h
  go_enter Try.func19, Try.ntmps19
  rw [cells4_nil] at b0 b1 hC hT
  go_wp2_with fail
  generalize (w.alloc (.cells #[.int .i64 (0), .int .i64 (0), .int .i64 (0), .int .i64 (0), .int .i64 (0), .int .i64 (0), .int .i64 (0), .int .i64 (0), .int .i64 (0), .int .i64 (0), .int .i64 (0), .int .i64 (0)] 36)).alloc (.cells #[.int .i64 (0), .int .i64 (0), .int .i64 (0), .int .i64 (0), .int .i64 (0), .int .i64 (0), .int .i64 (0), .int .i64 (0), .int .i64 (0), .int .i64 (0), .int .i64 (0), .int .i64 (0)] 36) = W0 at b0 b1 hC hT ⊢
  rw [← cells4_nil] at b0 b1
  have hq0 : w.heap.size < w.heap.size + 1 := by omega
  generalize w.heap.size + 1 = q at b1 hq0 ⊢
  refine (below_any 160 _ _ _ _ _ _ (by omega) (by omega) hC).mono ?_
  rintro e w1 ⟨x, rfl, x0, x1, hC1, hT1⟩
  replace b0 := b0.turn hT1 (by omega)
  replace b1 := b1.turn hT1 (by omega)
  replace hT := hT.trans hT1
  clear hT1 hC
  go_wp2_with fail
  refine (below_any 160 _ _ _ _ _ _ (by omega) (by omega) hC1).mono ?_
  rintro e w2 ⟨y, rfl, y0, y1, hC2, hT1⟩
  replace b0 := b0.turn hT1 (by omega)
  replace b1 := b1.turn hT1 (by omega)
  replace hT := hT.trans hT1
  clear hT1 hC1
  go_wp2_with fail
  refine (below_any 200 _ _ _ _ _ _ (by omega) (by omega) hC2).mono ?_
  rintro e w3 ⟨z, rfl, z0, z1, hC3, hT1⟩
  replace b0 := b0.turn hT1 (by omega)
  replace b1 := b1.turn hT1 (by omega)
  replace hT := hT.trans hT1
  clear hT1 hC2
  have B0 := Lib.hid b0
  have B1 := Lib.hid b1
  have HC := Lib.hid hC3
  have HT := Lib.hid hT
  clear b0 b1 hC3 hT
  go_wp2_with fail
  go_loopw [18] (fun j wr => ∃ (k : Nat) (us : List V3), k ≤ 4 ∧ j = .int .i64 k ∧ us.length = k ∧ (∀ u ∈ us, SmV u) ∧ Blk wr q 36 (cells4 us) ∧ Blk wr w.heap.size 36 (cells4 []) ∧ Cur wr B g v n bs ∧ Turn g w wr) (fun j _ => 4 - (intOf j).toNat)
  case atStart => exact ⟨0, [], by omega, rfl, rfl, by simp, B1.out, B0.out, HC.out, HT.out⟩
  case round =>
    obtain ⟨k, us, hk, rfl, hul, hsm, b1, b0, hC, hT⟩ := hrel
    have HL := Lib.hid hul
    have HSM := Lib.hid hsm
    clear B0 B1 HC HT hul hsm
    by_cases hlt : k < 4
    · obtain ⟨n0, e0⟩ := cells4_some (vs := us) (j := k * 3) (by omega)
      obtain ⟨n1, e1⟩ := cells4_some (vs := us) (j := k * 3 + 1) (by omega)
      obtain ⟨n2, e2⟩ := cells4_some (vs := us) (j := k * 3 + 2) (by omega)
      have E0 := Lib.hid e0
      have E1 := Lib.hid e1
      have E2 := Lib.hid e2
      have HH := Lib.hid hT
      clear e0 e1 e2 hT
      rcases (by omega : k = 0 ∨ k = 1 ∨ k = 2 ∨ k = 3) with rfl | rfl | rfl | rfl
      · go_wp2_with fail
        refine (below_any 60 _ _ _ _ _ _ (by omega) (by omega) hC).mono ?_
        rintro e w1' ⟨r, rfl, r0, r1, hC1, hT1⟩
        replace b0 := b0.turn hT1 (by omega)
        replace b1 := b1.turn hT1 (by omega)
        have HH := Lib.hid (HH.out.trans hT1)
        clear hT1 hC
        go_wp2_with fail
        refine (below_any 60 _ _ _ _ _ _ (by omega) (by omega) hC1).mono ?_
        rintro e w2' ⟨s, rfl, s0, s1, hC2, hT1⟩
        replace b0 := b0.turn hT1 (by omega)
        replace b1 := b1.turn hT1 (by omega)
        have HH := Lib.hid (HH.out.trans hT1)
        clear hT1 hC1
        go_wp2_with fail
        refine (below_any 30 _ _ _ _ _ _ (by omega) (by omega) hC2).mono ?_
        rintro e w3' ⟨t, rfl, t0, t1, hC3, hT1⟩
        replace b0 := b0.turn hT1 (by omega)
        replace b1 := b1.turn hT1 (by omega)
        have HH := Lib.hid (HH.out.trans hT1)
        clear hT1 hC2
        have B1 := Lib.hid b1
        have B0 := Lib.hid b0
        have HC := Lib.hid hC3
        have l1 := b1.lt
        have f1 := b1.frozen
        have d0 := (b1.cell 0).trans E0.out
        have d1 := (b1.cell 1).trans E1.out
        have d2 := (b1.cell 2).trans E2.out
        clear b1 b0 hC3
        go_wp2
        exact ⟨⟨1, us ++ [(x - 80, y - 80, 60 + z + t)], by omega, by go_num, by rw [List.length_append, HL.out]; rfl, smv_snoc HSM.out (by unfold SmV; dsimp only; omega), blk_set3 (k := 0) B1.out (x - 80, y - 80, 60 + z + t) HL.out (by omega), blk_far3 B0.out (by omega) _ _ _ _ _ _,
          HC.out.at3 (by omega) _ _ _ _ _ _, HH.out.at3 (by omega) _ _ _ _ _ _⟩, by simp [intOf]⟩
      · go_wp2_with fail
        refine (below_any 60 _ _ _ _ _ _ (by omega) (by omega) hC).mono ?_
        rintro e w1' ⟨r, rfl, r0, r1, hC1, hT1⟩
        replace b0 := b0.turn hT1 (by omega)
        replace b1 := b1.turn hT1 (by omega)
        have HH := Lib.hid (HH.out.trans hT1)
        clear hT1 hC
        go_wp2_with fail
        refine (below_any 60 _ _ _ _ _ _ (by omega) (by omega) hC1).mono ?_
        rintro e w2' ⟨s, rfl, s0, s1, hC2, hT1⟩
        replace b0 := b0.turn hT1 (by omega)
        replace b1 := b1.turn hT1 (by omega)
        have HH := Lib.hid (HH.out.trans hT1)
        clear hT1 hC1
        go_wp2_with fail
        refine (below_any 30 _ _ _ _ _ _ (by omega) (by omega) hC2).mono ?_
        rintro e w3' ⟨t, rfl, t0, t1, hC3, hT1⟩
        replace b0 := b0.turn hT1 (by omega)
        replace b1 := b1.turn hT1 (by omega)
        have HH := Lib.hid (HH.out.trans hT1)
        clear hT1 hC2
        have B1 := Lib.hid b1
        have B0 := Lib.hid b0
        have HC := Lib.hid hC3
        have l1 := b1.lt
        have f1 := b1.frozen
        have d0 := (b1.cell 3).trans E0.out
        have d1 := (b1.cell 4).trans E1.out
        have d2 := (b1.cell 5).trans E2.out
        clear b1 b0 hC3
        go_wp2
        exact ⟨⟨2, us ++ [(x - 80 + (20 + r), y - 80, 60 + z + t)], by omega, by go_num, by rw [List.length_append, HL.out]; rfl, smv_snoc HSM.out (by unfold SmV; dsimp only; omega), blk_set3 (k := 1) B1.out (x - 80 + (20 + r), y - 80, 60 + z + t) HL.out (by omega), blk_far3 B0.out (by omega) _ _ _ _ _ _,
          HC.out.at3 (by omega) _ _ _ _ _ _, HH.out.at3 (by omega) _ _ _ _ _ _⟩, by simp [intOf]⟩
      · go_wp2_with fail
        refine (below_any 60 _ _ _ _ _ _ (by omega) (by omega) hC).mono ?_
        rintro e w1' ⟨r, rfl, r0, r1, hC1, hT1⟩
        replace b0 := b0.turn hT1 (by omega)
        replace b1 := b1.turn hT1 (by omega)
        have HH := Lib.hid (HH.out.trans hT1)
        clear hT1 hC
        go_wp2_with fail
        refine (below_any 60 _ _ _ _ _ _ (by omega) (by omega) hC1).mono ?_
        rintro e w2' ⟨s, rfl, s0, s1, hC2, hT1⟩
        replace b0 := b0.turn hT1 (by omega)
        replace b1 := b1.turn hT1 (by omega)
        have HH := Lib.hid (HH.out.trans hT1)
        clear hT1 hC1
        go_wp2_with fail
        refine (below_any 30 _ _ _ _ _ _ (by omega) (by omega) hC2).mono ?_
        rintro e w3' ⟨t, rfl, t0, t1, hC3, hT1⟩
        replace b0 := b0.turn hT1 (by omega)
        replace b1 := b1.turn hT1 (by omega)
        have HH := Lib.hid (HH.out.trans hT1)
        clear hT1 hC2
        have B1 := Lib.hid b1
        have B0 := Lib.hid b0
        have HC := Lib.hid hC3
        have l1 := b1.lt
        have f1 := b1.frozen
        have d0 := (b1.cell 6).trans E0.out
        have d1 := (b1.cell 7).trans E1.out
        have d2 := (b1.cell 8).trans E2.out
        clear b1 b0 hC3
        go_wp2
        exact ⟨⟨3, us ++ [(x - 80, y - 80 + (20 + s), 60 + z + t)], by omega, by go_num, by rw [List.length_append, HL.out]; rfl, smv_snoc HSM.out (by unfold SmV; dsimp only; omega), blk_set3 (k := 2) B1.out (x - 80, y - 80 + (20 + s), 60 + z + t) HL.out (by omega), blk_far3 B0.out (by omega) _ _ _ _ _ _,
          HC.out.at3 (by omega) _ _ _ _ _ _, HH.out.at3 (by omega) _ _ _ _ _ _⟩, by simp [intOf]⟩
      · go_wp2_with fail
        refine (below_any 60 _ _ _ _ _ _ (by omega) (by omega) hC).mono ?_
        rintro e w1' ⟨r, rfl, r0, r1, hC1, hT1⟩
        replace b0 := b0.turn hT1 (by omega)
        replace b1 := b1.turn hT1 (by omega)
        have HH := Lib.hid (HH.out.trans hT1)
        clear hT1 hC
        go_wp2_with fail
        refine (below_any 60 _ _ _ _ _ _ (by omega) (by omega) hC1).mono ?_
        rintro e w2' ⟨s, rfl, s0, s1, hC2, hT1⟩
        replace b0 := b0.turn hT1 (by omega)
        replace b1 := b1.turn hT1 (by omega)
        have HH := Lib.hid (HH.out.trans hT1)
        clear hT1 hC1
        go_wp2_with fail
        refine (below_any 30 _ _ _ _ _ _ (by omega) (by omega) hC2).mono ?_
        rintro e w3' ⟨t, rfl, t0, t1, hC3, hT1⟩
        replace b0 := b0.turn hT1 (by omega)
        replace b1 := b1.turn hT1 (by omega)
        have HH := Lib.hid (HH.out.trans hT1)
        clear hT1 hC2
        have B1 := Lib.hid b1
        have B0 := Lib.hid b0
        have HC := Lib.hid hC3
        have l1 := b1.lt
        have f1 := b1.frozen
        have d0 := (b1.cell 9).trans E0.out
        have d1 := (b1.cell 10).trans E1.out
        have d2 := (b1.cell 11).trans E2.out
        clear b1 b0 hC3
        go_wp2
        exact ⟨⟨4, us ++ [(x - 80 + (20 + r), y - 80 + (20 + s), 60 + z + t)], by omega, by go_num, by rw [List.length_append, HL.out]; rfl, smv_snoc HSM.out (by unfold SmV; dsimp only; omega), blk_set3 (k := 3) B1.out (x - 80 + (20 + r), y - 80 + (20 + s), 60 + z + t) HL.out (by omega), blk_far3 B0.out (by omega) _ _ _ _ _ _,
          HC.out.at3 (by omega) _ _ _ _ _ _, HH.out.at3 (by omega) _ _ _ _ _ _⟩, by simp [intOf]⟩
    · have hke : k = 4 := by omega
      subst hke
      have c1 := b1.cell
      unfold cells4 at c1
      have f1 := b1.frozen
      have l1 := b1.lt
      have c0 := b0.cell
      unfold cells4 at c0
      have f0 := b0.frozen
      have l0 := b0.lt
      have B0 := Lib.hid b0
      have HC := Lib.hid hC
      have HH := Lib.hid hT
      clear b0 b1 hC hT
      go_wp2
      exact draw5_end (us := us) (blk_row12 B0.out rfl _ _ _ _ _ _ _ _ _ _ _ _) rfl rfl HL.out HSM.out (HC.out.row12 (by omega) _ _ _ _ _ _ _ _ _ _ _ _) (HH.out.row12 (Nat.le_refl _) _ _ _ _ _ _ _ _ _ _ _ _)
def GivesPB (w : World) (r : Ending) (w' : World) : Prop := ∃ us : List V3, r = .returned (.agg (cells4 us)) ∧ us.length = 4 ∧ (∀ u ∈ us, SmV u) ∧ Below w.heap.size w w'
set_option maxRecDepth 100000 in
theorem makeP_end {w W : World} {a : Act} {us : List V3} (hb : Blk W w.heap.size 36 (cells4 us)) (hp : a.tmps.getD 4 undef = .pointer (some ⟨w.heap.size, 0, none⟩))
    (hd : a.defers = []) (hl : us.length = 4) (hs : ∀ u ∈ us, SmV u) (hB : Below w.heap.size w W) : bodyPost Try.prog Try.f11 (GivesPB w) .ret a W :=
  bodyPost_ret (results_row rfl a.tmps W w.heap.size 36 (cells4 us) _ hp hb rfl rfl info_patch) hd ⟨us, rfl, hl, hs, hB⟩
set_option maxHeartbeats 4000000 in
set_option maxRecDepth 100000 in
theorem makePatch_any (m : Int) (w : World) (B : Nat) (v : Value) (n : Nat) (bs : Nat → Int) (hm0 : 0 ≤ m) (hm1 : m ≤ 10) (hB : B ≤ w.heap.size) (hn : n ≤ 1048576) (h : BytesAt w B v n bs) :
    Calls Try.prog 11 #[v, .int .i64 m] w (GivesPB w) := by
  have hb0 := below1 w (.cells (cells4 []) 36)
  have b0 := Blk.new w 36 (cells4 [])
  have h0 := h.keep (hb0.mono hB)
  have hB2 : B ≤ (w.alloc (.cells (cells4 []) 36)).heap.size := Nat.le_trans hB hb0.size
  clear h
  go_enter Try.func11, Try.ntmps11
  rw [cells4_nil] at b0 hb0 h0 hB2
  go_wp2_with fail
  revert hB2
  generalize w.alloc (.cells #[.int .i64 (0), .int .i64 (0), .int .i64 (0), .int .i64 (0), .int .i64 (0), .int .i64 (0), .int .i64 (0), .int .i64 (0), .int .i64 (0), .int .i64 (0), .int .i64 (0), .int .i64 (0)] 36) = W0 at b0 hb0 h0 ⊢
  intro hB2
  refine (new32_any (5 * m) W0 B v n bs (by omega) (by omega) hB2 hn h0).mono ?_
  rintro e w1 ⟨g, rfl, hg, hC, hb⟩
  have hgw := b0.lt
  replace b0 : Blk w1 _ _ _ := Blk.keep hb b0
  replace hb0 := b_keep hb hb0
  clear hb h0 hB2 hm0 hm1
  go_wp2_with fail
  refine (draw5_any _ _ _ _ _ _ hC).mono ?_
  rintro r w2 ⟨us, rfl, hl, hs, _, hT⟩
  replace b0 := b0.turn hT (by omega)
  replace hb0 := hb0.trans (Turn.below hT hb0.size (by omega))
  clear hT hC
  have HL := Lib.hid hl
  have HS := Lib.hid hs
  have c0 := b0.cell
  have f0 := b0.frozen
  have l0 := b0.lt
  clear hl hs
  unfold cells4
  go_wp2
  exact makeP_end (us := us) (blk_row12 b0 rfl _ _ _ _ _ _ _ _ _ _ _ _) rfl rfl HL.out HS.out (below_row12 hb0 (Nat.le_refl _) _ _ _ _ _ _ _ _ _ _ _ _)
end Go.Proofs.Ytadjnmldgnaabaa
