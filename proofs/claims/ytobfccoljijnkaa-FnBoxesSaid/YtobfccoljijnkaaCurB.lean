/- The reference's draws of boxes. -/
import Derived.Test.YtobfccoljijnkaaCur2
import Derived.Test.YtobfccoljijnkaaBnd
namespace Go.Proofs.Ytobfccoljijnkaa
open Go.RowKit

def two (a b : Int) (i : Nat) : Int := if i = 0 then a else b
theorem lo_two {a b : Int} (ha : -100 ≤ a ∧ a ≤ 299) (hb : -100 ≤ b ∧ b ≤ 299) : bpL (two a b) 2 = min a b := by
  show mnZ (mnZ (cl a) (cl a)) (cl b) = _
  rw [cl_id (by omega) (by omega), cl_id (by omega) (by omega)]
  unfold mnZ
  omega
theorem hi_two {a b : Int} (ha : -100 ≤ a ∧ a ≤ 299) (hb : -100 ≤ b ∧ b ≤ 299) : bpH (two a b) 2 = max a b := by
  show mxZ (mxZ (cl a) (cl a)) (cl b) = _
  rw [cl_id (by omega) (by omega), cl_id (by omega) (by omega)]
  unfold mxZ
  omega
theorem triAt_two {w : World} {g : Nat} {t : TypeId} {a b c d e f : Int} (h : Blk w g t #[.int .i64 a, .int .i64 b, .int .i64 c, .int .i64 d, .int .i64 e, .int .i64 f]) :
    TriAt w (.slice (some ⟨g, 0, none⟩) 2 2) 2 (two a d) (two b e) (two c f) := by
  refine ⟨_, _, rfl, Nat.le_refl _, fun _ => ⟨g, 0, rfl, h.lt, fun i hi => ?_⟩⟩
  rcases (by omega : i = 0 ∨ i = 1) with rfl | rfl <;> exact ⟨h.cell _, h.cell _, h.cell _⟩
/-- Small sides, the lower not above the upper. -/
def SmallBox (a b c d e f : Int) : Prop := (-100 ≤ a ∧ a ≤ d ∧ d ≤ 299) ∧ (-100 ≤ b ∧ b ≤ e ∧ e ≤ 299) ∧ (-100 ≤ c ∧ c ≤ f ∧ f ≤ 299)
def GivesBox (B g : Nat) (v : Value) (n : Nat) (bs : Nat → Int) (w : World) (r : Ending) (w' : World) : Prop :=
  ∃ a b c d e f : Int, r = .returned (.agg #[.int .i64 a, .int .i64 b, .int .i64 c, .int .i64 d, .int .i64 e, .int .i64 f]) ∧ SmallBox a b c d e f ∧ Cur w' B g v n bs ∧ Turn g w w'
theorem Cur.far6 {w : World} {B g : Nat} {v : Value} {n : Nat} {bs : Nat → Int} (h : Cur w B g v n bs) {k : Nat} (hk : g < k) (u0 u1 u2 u3 u4 u5 : Value) :
    Cur ((((((w.setCell ⟨k, 0, none⟩ u0).setCell ⟨k, 1, none⟩ u1).setCell ⟨k, 2, none⟩ u2).setCell ⟨k, 3, none⟩ u3).setCell ⟨k, 4, none⟩ u4).setCell ⟨k, 5, none⟩ u5) B g v n bs := by
  obtain ⟨h1, h2, i, x, h3, h4, h5⟩ := h
  exact ⟨h1, h2.keep (below_set6 (Below.refl B w) (by omega) u0 u1 u2 u3 u4 u5), i, x, h3, h4, h5.far6 (by omega) u0 u1 u2 u3 u4 u5⟩
theorem Turn.new6 {g : Nat} {a w : World} (h : Turn g a w) {k : Nat} (hp : a.heap.size ≤ k) (u0 u1 u2 u3 u4 u5 : Value) :
    Turn g a ((((((w.setCell ⟨k, 0, none⟩ u0).setCell ⟨k, 1, none⟩ u1).setCell ⟨k, 2, none⟩ u2).setCell ⟨k, 3, none⟩ u3).setCell ⟨k, 4, none⟩ u4).setCell ⟨k, 5, none⟩ u5) :=
  (((((h.new_ (p := ⟨k, 0, none⟩) hp u0).new_ (p := ⟨k, 1, none⟩) hp u1).new_ (p := ⟨k, 2, none⟩) hp u2).new_ (p := ⟨k, 3, none⟩) hp u3).new_ (p := ⟨k, 4, none⟩) hp u4).new_ (p := ⟨k, 5, none⟩) hp u5
set_option maxHeartbeats 4000000 in
theorem draw3_any (w : World) (B g : Nat) (v : Value) (n : Nat) (bs : Nat → Int) (h : Cur w B g v n bs) :
    Calls Try.prog 83 #[.pointer (some ⟨g, 0, none⟩)] w (GivesBox B g v n bs w) := by
  have hgl := h.lt
  have b0 := Blk.new w 28 #[.int .i64 (0), .int .i64 (0), .int .i64 (0), .int .i64 (0), .int .i64 (0), .int .i64 (0)]
  have hC := h.keep (below1 w (.cells #[.int .i64 (0), .int .i64 (0), .int .i64 (0), .int .i64 (0), .int .i64 (0), .int .i64 (0)] 28))
  have hT : Turn g w (w.alloc (.cells #[.int .i64 (0), .int .i64 (0), .int .i64 (0), .int .i64 (0), .int .i64 (0), .int .i64 (0)] 28)) := (Turn.refl g w).alloc _
  clear h
  go_enter Try.func83, Try.ntmps83
  go_wp2_with fail
  generalize w.alloc (.cells #[.int .i64 (0), .int .i64 (0), .int .i64 (0), .int .i64 (0), .int .i64 (0), .int .i64 (0)] 28) = W0 at b0 hC hT ⊢
  refine (draw2_any _ _ _ _ _ _ hC).mono ?_
  rintro e w1 ⟨x, y, z, rfl, hx, hy, hz, hC1, hT1⟩
  replace b0 := b0.turn hT1 (by omega)
  replace hT := hT.trans hT1
  have HX := Lib.hid hx
  have HY := Lib.hid hy
  have HZ := Lib.hid hz
  clear hT1 hC hx hy hz
  go_wp2_with fail
  refine (draw2_any _ _ _ _ _ _ hC1).mono ?_
  rintro e w2 ⟨x1, y1, z1, rfl, hx, hy, hz, hC2, hT1⟩
  replace b0 := b0.turn hT1 (by omega)
  replace hT := hT.trans hT1
  have HX1 := Lib.hid hx
  have HY1 := Lib.hid hy
  have HZ1 := Lib.hid hz
  clear hT1 hC1 hx hy hz
  have t0 := triAt_two (Blk.new w2 26 #[.int .i64 (x), .int .i64 (y), .int .i64 (z), .int .i64 (x1), .int .i64 (y1), .int .i64 (z1)])
  replace b0 := b0.alloc (.cells #[.int .i64 (x), .int .i64 (y), .int .i64 (z), .int .i64 (x1), .int .i64 (y1), .int .i64 (z1)] 26)
  replace hT := hT.alloc (.cells #[.int .i64 (x), .int .i64 (y), .int .i64 (z), .int .i64 (x1), .int .i64 (y1), .int .i64 (z1)] 26)
  replace hC2 := hC2.keep (below1 w2 (.cells #[.int .i64 (x), .int .i64 (y), .int .i64 (z), .int .i64 (x1), .int .i64 (y1), .int .i64 (z1)] 26))
  go_wp2_with fail
  generalize w2.heap.size = q at t0 ⊢
  generalize w2.alloc (.cells #[.int .i64 (x), .int .i64 (y), .int .i64 (z), .int .i64 (x1), .int .i64 (y1), .int .i64 (z1)] 26) = W2 at b0 hT hC2 t0 ⊢
  refine (boundS _ 2 (two x x1) (two y y1) (two z z1) W2 t0 (by omega)).mono ?_
  rintro e w3 ⟨rfl, hb⟩
  rw [lo_two HX.out HX1.out, lo_two HY.out HY1.out, lo_two HZ.out HZ1.out, hi_two HX.out HX1.out, hi_two HY.out HY1.out, hi_two HZ.out HZ1.out]
  have hS : SmallBox (min x x1) (min y y1) (min z z1) (max x x1) (max y y1) (max z z1) := by
    have a1 := HX.out
    have a2 := HY.out
    have a3 := HZ.out
    have a4 := HX1.out
    have a5 := HY1.out
    have a6 := HZ1.out
    unfold SmallBox
    omega
  have HS := Lib.hid hS
  clear hS HX HY HZ HX1 HY1 HZ1
  generalize min x x1 = lx at *
  generalize min y y1 = ly at *
  generalize min z z1 = lz at *
  generalize max x x1 = mx at *
  generalize max y y1 = my at *
  generalize max z z1 = mz at *
  replace b0 : Blk w3 _ _ _ := Blk.keep hb b0
  replace hT := hT.trans (Turn.of_below hb)
  replace hC2 := hC2.keep hb
  clear hb t0
  go_upto_region 2 with fail
  have b1 := Blk.new w3 28 #[.int .i64 (lx), .int .i64 (ly), .int .i64 (lz), .int .i64 (mx), .int .i64 (my), .int .i64 (mz)]
  replace b0 := b0.alloc (.cells #[.int .i64 (lx), .int .i64 (ly), .int .i64 (lz), .int .i64 (mx), .int .i64 (my), .int .i64 (mz)] 28)
  replace hT := hT.alloc (.cells #[.int .i64 (lx), .int .i64 (ly), .int .i64 (lz), .int .i64 (mx), .int .i64 (my), .int .i64 (mz)] 28)
  replace hC2 := hC2.keep (below1 w3 (.cells #[.int .i64 (lx), .int .i64 (ly), .int .i64 (lz), .int .i64 (mx), .int .i64 (my), .int .i64 (mz)] 28))
  generalize w3.heap.size = q3 at b1 ⊢
  generalize w3.alloc (.cells #[.int .i64 (lx), .int .i64 (ly), .int .i64 (lz), .int .i64 (mx), .int .i64 (my), .int .i64 (mz)] 28) = W3 at b0 b1 hT hC2 ⊢
  have c0 := b0.cell
  have f0 := b0.frozen
  have l0 := b0.lt
  have c1 := b1.cell
  have f1 := b1.frozen
  have l1 := b1.lt
  have HT := Lib.hid hT
  have HC := Lib.hid hC2
  clear hT hC2
  go_wp2
  exact bodyPost_ret (v := .agg #[.int .i64 (lx), .int .i64 (ly), .int .i64 (lz), .int .i64 (mx), .int .i64 (my), .int .i64 (mz)]) (by simp [results, Try.results83, go_sem, c0]) rfl ⟨_, _, _, _, _, _, rfl, HS.out, HC.out.far6 (by omega) _ _ _ _ _ _, HT.out.new6 (Nat.le_refl _) _ _ _ _ _ _⟩
def GivesBoxB (w : World) (r : Ending) (w' : World) : Prop :=
  ∃ a b c d e f : Int, r = .returned (.agg #[.int .i64 a, .int .i64 b, .int .i64 c, .int .i64 d, .int .i64 e, .int .i64 f]) ∧ SmallBox a b c d e f ∧ Below w.heap.size w w'
set_option maxHeartbeats 2000000 in
theorem makeBox_any (m : Int) (w : World) (B : Nat) (v : Value) (n : Nat) (bs : Nat → Int) (hm0 : 0 ≤ m) (hm1 : m ≤ 10) (hB : B ≤ w.heap.size) (hn : n ≤ 1048576) (h : BytesAt w B v n bs) :
    Calls Try.prog 46 #[v, .int .i64 m] w (GivesBoxB w) := by
  have hb0 := below1 w (.cells #[.int .i64 (0), .int .i64 (0), .int .i64 (0), .int .i64 (0), .int .i64 (0), .int .i64 (0)] 28)
  have b0 := Blk.new w 28 #[.int .i64 (0), .int .i64 (0), .int .i64 (0), .int .i64 (0), .int .i64 (0), .int .i64 (0)]
  have h0 := h.keep (hb0.mono hB)
  have hB2 : B ≤ (w.alloc (.cells #[.int .i64 (0), .int .i64 (0), .int .i64 (0), .int .i64 (0), .int .i64 (0), .int .i64 (0)] 28)).heap.size := Nat.le_trans hB hb0.size
  clear h
  go_enter Try.func46, Try.ntmps46
  go_wp2_with fail
  revert hB2
  generalize w.alloc (.cells #[.int .i64 (0), .int .i64 (0), .int .i64 (0), .int .i64 (0), .int .i64 (0), .int .i64 (0)] 28) = W0 at b0 hb0 h0 ⊢
  intro hB2
  refine (new32_any (5 * m) W0 B v n bs (by omega) (by omega) hB2 hn h0).mono ?_
  rintro e w1 ⟨g, rfl, hg, hC, hb⟩
  have hgw := b0.lt
  replace b0 : Blk w1 _ _ _ := Blk.keep hb b0
  replace hb0 := b_keep hb hb0
  clear hb h0 hB2 hm0 hm1
  go_wp2_with fail
  refine (draw3_any _ _ _ _ _ _ hC).mono ?_
  rintro r w2 ⟨a, b, c, d, e, f, rfl, hS, _, hT⟩
  replace b0 := b0.turn hT (by omega)
  replace hb0 := hb0.trans (Turn.below hT hb0.size (by omega))
  clear hT hC
  have c0 := b0.cell
  have f0 := b0.frozen
  have l0 := b0.lt
  have HS := Lib.hid hS
  clear hS
  go_wp2
  exact bodyPost_ret (v := .agg #[.int .i64 (a), .int .i64 (b), .int .i64 (c), .int .i64 (d), .int .i64 (e), .int .i64 (f)]) (by simp [results, Try.results46, go_sem, c0]) rfl ⟨_, _, _, _, _, _, rfl, HS.out, below_set6 hb0 (Nat.le_refl _) _ _ _ _ _ _⟩
end Go.Proofs.Ytobfccoljijnkaa
