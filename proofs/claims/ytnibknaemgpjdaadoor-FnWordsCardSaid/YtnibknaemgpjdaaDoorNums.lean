/- The reference's list of small numbers: a slice of the call's own. -/
import Derived.Test.YtnibknaemgpjdaaDoorCur2
import Derived.Test.YtnibknaemgpjdaaDoorInts
import Derived.OwnWalk
import Derived.Maps.AppendAt
namespace Go.Proofs.YtnibknaemgpjdaaDoor
open Go.RowKit

theorem infoI : (Tryd.prog.info? 3).map (fun i => (i.zero, i.size, i.bytes)) = some (some (.int .i64 0), 1, 8) := by kernel_rfl
theorem own_cur_ne {w : World} {base B g n m : Nat} {v u : Value} {bs : Nat → Int} {xs : List Value} (h : w.ownsRow base 3 1 u m xs) (hC : Cur w B g v n bs) : u.ownBlock ≠ some g := by
  obtain ⟨_, _, i, x, _, _, hb⟩ := hC
  rcases h.2 with ⟨rfl, _⟩ | ⟨g', cap, cur, rfl, _, hh, _⟩
  · simp [Value.ownBlock]
  · intro he
    have e : g' = g := by simpa [Value.ownBlock] using he
    subst e
    unfold Blk at hb
    rw [hh] at hb
    injection hb with hb
    injection hb with _ ht
    exact absurd ht (by decide)
theorem Cur.grown {w w' : World} {B g n : Nat} {v : Value} {bs : Nat → Int} {row : Option Nat} (h : Cur w B g v n bs) (hg : w.grownBy w' row) (hne : row ≠ some g) (hr : ∀ k, row = some k → B ≤ k) : Cur w' B g v n bs := by
  have hlt := h.lt
  obtain ⟨h1, h2, i, x, h3, h4, h5⟩ := h
  exact ⟨h1, h2.keep ((Below.refl B w).grown hg (by omega) hr), i, x, h3, h4, (hg.block g hlt (fun e => hne e.symm)).trans h5⟩
theorem Turn.grown {g : Nat} {a w w' : World} {row : Option Nat} (h : Turn g a w) (hg : w.grownBy w' row) (hr : ∀ k, row = some k → a.heap.size ≤ k) : Turn g a w' :=
  ⟨hg.os.trans h.os, hg.tape.trans h.tape, hg.output.trans h.output, Nat.le_trans h.size hg.size,
    fun k hk hne => (hg.block k (Nat.lt_of_lt_of_le hk h.size) (fun e => by have := hr k e.symm; omega)).trans (h.block k hk hne)⟩
theorem own_base {w : World} {b b' n : Nat} {e : TypeId} {u : Value} {xs : List Value} (h : w.ownsRow b e 1 u n xs) (hb : b' ≤ b) : w.ownsRow b' e 1 u n xs := by
  refine ⟨h.1, ?_⟩
  rcases h.2 with h2 | ⟨g, cap, cur, a, c, d⟩
  · exact .inl h2
  · exact .inr ⟨g, cap, cur, a, by omega, d⟩
/-- A slice of the call's own reads as its ints. -/
theorem intsAt_of_own {w : World} {base : Nat} {e : TypeId} {u : Value} {xs : List Int} (h : w.ownsRow base e 1 u xs.length (xs.map (Value.int .i64))) : IntsAt w u xs := by
  have hl := h.lt
  rcases h.2 with ⟨rfl, h0⟩ | ⟨g, cap, cur, rfl, hb, hh, hrest⟩
  · obtain rfl : xs = [] := List.eq_nil_of_length_eq_zero h0
    exact ⟨none, 0, rfl, fun h => absurd h (by simp)⟩
  · refine ⟨_, _, rfl, fun _ => ⟨g, 0, rfl, (hl g rfl).2, fun i hi => ?_⟩⟩
    rw [Nat.zero_add, h.cellAt i (by omega), List.getElem?_map, List.getElem?_eq_getElem hi]
    rfl

/-- A slice of at most four numbers from -20 to 69, of the call's own; the cursor stays a cursor. -/
def GivesInts (B g : Nat) (v : Value) (n : Nat) (bs : Nat → Int) (w : World) (e : Ending) (w' : World) : Prop :=
  ∃ (u : Value) (xs : List Int), e = .returned u ∧ xs.length ≤ 4 ∧ (∀ x ∈ xs, -20 ≤ x ∧ x ≤ 69) ∧ w'.ownsRow w.heap.size 3 1 u xs.length (xs.map (Value.int .i64)) ∧ Cur w' B g v n bs ∧ Turn g w w'
theorem nums_step {w w1 w2 w3 : World} {B g n : Nat} {v u u2 : Value} {bs : Nat → Int} {xs : List Int} {x : Int} (hBw : B ≤ w.heap.size)
    (hown : w1.ownsRow w.heap.size 3 1 u xs.length (xs.map (Value.int .i64))) (hC : Cur w1 B g v n bs) (hT : Turn g w w1) (hC2 : Cur w2 B g v n bs) (hT2 : Turn g w1 w2)
    (hown2 : w3.ownsRow w.heap.size 3 1 u2 (xs.length + 1) (xs.map (Value.int .i64) ++ [.int .i64 (x - 20)])) (hg : (w2.alloc (.cells #[.int .i64 (x - 20)] 3)).grownBy w3 u.ownBlock) :
    w3.ownsRow w.heap.size 3 1 u2 (xs ++ [x - 20]).length ((xs ++ [x - 20]).map (Value.int .i64)) ∧ Cur w3 B g v n bs ∧ Turn g w w3 := by
  have hne := own_cur_ne hown hC
  have hbase : ∀ k, u.ownBlock = some k → w.heap.size ≤ k := fun k hk => (hown.lt k hk).1
  refine ⟨by simpa using hown2, ?_, ?_⟩
  · exact (hC2.keep (below1 w2 (.cells #[.int .i64 (x - 20)] 3))).grown hg hne (fun k hk => by have := hbase k hk; omega)
  · exact ((hT.trans hT2).alloc (.cells #[.int .i64 (x - 20)] 3)).grown hg hbase
set_option maxHeartbeats 4000000 in
set_option maxRecDepth 100000 in
theorem nums_any (w : World) (B g : Nat) (v : Value) (n : Nat) (bs : Nat → Int) (hBw : B ≤ w.heap.size) (h : Cur w B g v n bs) :
    Calls Tryd.prog 53 #[.pointer (some ⟨g, 0, none⟩)] w (GivesInts B g v n bs w) := by
  obtain ⟨i0, hi, hz0, hz1, hz2⟩ := info_parts infoI
  have hown0 := World.ownsRow_made (base := w.heap.size) (e := 3) (size := 1) w #[] 0 (Nat.le_refl _) (by simp) (by simp)
  have hC0 := h.keep (below1 w (.cells #[] 3))
  have hT0 : Turn g w (w.alloc (.cells #[] 3)) := (Turn.refl g w).alloc _
  have HO := Lib.hid hown0
  have HT := Lib.hid hT0
  clear hown0 hT0 h
  go_enter Tryd.func53, Tryd.ntmps53
  go_wp2_with fail
  refine (below_any 5 _ _ _ _ _ _ (by omega) (by omega) hC0).mono ?_
  rintro e w1 ⟨m0, rfl, m1, m2, hC1, hT1⟩
  obtain ⟨m, rfl⟩ := Int.eq_ofNat_of_zero_le m1
  have hown1 := HO.out.kept hT1 (.inr (own_cur_ne HO.out hC0))
  have HO1 := Lib.hid hown1
  have HT1 := Lib.hid (HT.out.trans hT1)
  have HC1 := Lib.hid hC1
  clear hown1 hT1 HO HT hC0 hC1
  go_wp2
  go_loopw [3, 4] (fun s c wr => ∃ (k : Nat) (xs : List Int), c = .int .i64 k ∧ xs.length + k ≤ 4 ∧ (∀ x ∈ xs, -20 ≤ x ∧ x ≤ 69) ∧ wr.ownsRow w.heap.size 3 1 s xs.length (xs.map (Value.int .i64)) ∧ Cur wr B g v n bs ∧ Turn g w wr) (fun _ c _ => (intOf c).toNat)
  case atStart => exact ⟨m, [], rfl, by simp; omega, by simp, by simpa using HO1.out, HC1.out, HT1.out⟩
  case round =>
    obtain ⟨k, xs, rfl, hlen, hxs, hown, hC, hT⟩ := hrel
    clear HO1 HC1 HT1 m1 m2
    by_cases hk : 0 < k
    · have hk1 : (0 : Int) < (k : Int) := by omega
      have hk2 : (k : Int) ≤ 4 := by omega
      have HX := Lib.hid hxs
      clear hxs
      go_wp2_with fail
      refine (below_any 90 _ _ _ _ _ _ (by omega) (by omega) hC).mono ?_
      rintro e w2 ⟨x, rfl, x0, x1, hC2, hT2⟩
      have hownk := hown.kept hT2 (.inr (own_cur_ne hown hC))
      have hsz2 : w.heap.size ≤ w2.heap.size := Nat.le_trans hT.size hT2.size
      go_wp2_with (at_builtin; refine wpList_append_own _ rfl _ _ 39 rfl w.heap.size 3 i0 (.int .i64 0) 1 8 Tryd.underlying39 hi hz0 hz1 hz2 rfl (by decide) _ _ _ rfl (hownk.alloc _) ⟨w2.heap.size, 0, none⟩ 1 1 [.int .i64 (x - 20)] rfl rfl (cell_one_new _ _ _) (by simp [Value.oneCell']) (by unfold maxLen; omega) (by omega) (by simp; omega) ?_; intro u2 w3 hown3 hg3 _; have R := nums_step hBw hown hC hT hC2 hT2 hown3 hg3; clear hown3 hg3 hownk hown hC hT hC2 hT2)
      obtain ⟨r1, r2, r3⟩ := R
      go_roundw
      case rel => exact ⟨k - 1, xs ++ [x - 20], by congr 1; omega, by simp; omega, fun y hy => by rcases List.mem_append.1 hy with hy | hy; exact HX.out y hy; simp at hy; omega, r1, r2, r3⟩
      case measure => simp [intOf]; omega
    · obtain rfl : k = 0 := by omega
      go_wp2
      go_ret
      exact ⟨_, xs, rfl, by omega, hxs, hown, hC, hT⟩
/-- A slice of at most four small numbers, of the call's own; nothing that was there has turned. -/
def GivesIntsB (w : World) (e : Ending) (w' : World) : Prop :=
  ∃ (u : Value) (xs : List Int), e = .returned u ∧ xs.length ≤ 4 ∧ (∀ x ∈ xs, -20 ≤ x ∧ x ≤ 69) ∧ w'.ownsRow w.heap.size 3 1 u xs.length (xs.map (Value.int .i64)) ∧ Below w.heap.size w w'
set_option maxHeartbeats 1000000 in
set_option maxRecDepth 100000 in
theorem makeInts_any (w : World) (B : Nat) (v : Value) (n : Nat) (bs : Nat → Int) (hB : B ≤ w.heap.size) (hn : n ≤ 1048576) (h : BytesAt w B v n bs) :
    Calls Tryd.prog 15 #[v] w (GivesIntsB w) := by
  go_enter Tryd.func15, Tryd.ntmps15
  go_wp2_with fail
  refine (new_any w B v n bs hB hn h).mono ?_
  rintro e w1 ⟨g, rfl, hg, hC, hb⟩
  have hB1 : B ≤ w1.heap.size := Nat.le_trans hB hb.size
  go_wp2_with fail
  refine (nums_any _ _ _ _ _ _ hB1 hC).mono ?_
  rintro e w2 ⟨u, xs, rfl, hl, hx, hown, _, hT⟩
  have R : w2.ownsRow w.heap.size 3 1 u xs.length (xs.map (Value.int .i64)) := own_base hown hb.size
  have HR := Lib.hid R
  have HX := Lib.hid hx
  have HB := Lib.hid (hb.trans (Turn.below hT hb.size hg))
  clear R hx hown hT hb hC
  go_wp2
  go_ret
  exact ⟨_, xs, rfl, hl, HX.out, HR.out, HB.out⟩
end Go.Proofs.YtnibknaemgpjdaaDoor
