/- Slices of strings: how one reads in memory, and what the call's own rows of strings leave. Any program. -/
import Derived.Test.YtnibknaemgpjdaaDoorBlk
import Derived.Test.YtnibknaemgpjdaaDoorTxt
import Derived.Lib.Hide
import Derived.WalkSmall
import Derived.Laws.AppendOwn
namespace Go.Proofs.YtnibknaemgpjdaaDoor
open Go Go.RowKit

/-- The slice value v reads as the strings ss in world w. -/
def StrsAt (w : World) (v : Value) (ss : List ByteArray) : Prop :=
  ∃ (a : Option Addr) (cap : Nat), v = .slice a ss.length cap ∧ (0 < ss.length → ∃ b off, a = some ⟨b, off, none⟩ ∧ b < w.heap.size ∧ ∀ i, i < ss.length → w.cell? ⟨b, off + i, none⟩ = some (.string (ss[i]?.getD ByteArray.empty)))
theorem StrsAt.keep {w w' : World} {v : Value} {ss : List ByteArray} (h : StrsAt w v ss) (hb : Below w.heap.size w w') : StrsAt w' v ss := by
  obtain ⟨a, cap, rfl, hc⟩ := h
  refine ⟨a, cap, rfl, fun h0 => ?_⟩
  obtain ⟨b, off, rfl, hlt, hcell⟩ := hc h0
  exact ⟨b, off, rfl, Nat.lt_of_lt_of_le hlt hb.size, fun i hi => (hb.cell (p := ⟨b, off + i, none⟩) hlt).trans (hcell i hi)⟩

/-- The slice value v owns the strings ss: they lie at the head of a block from B on, not frozen. -/
def OwnStrs (w : World) (B : Nat) (v : Value) (ss : List ByteArray) : Prop :=
  ∃ (a : Option Addr) (cap : Nat), v = .slice a ss.length cap ∧ ss.length ≤ cap ∧ (0 < ss.length → ∃ g, a = some ⟨g, 0, none⟩ ∧ B ≤ g ∧ g < w.heap.size ∧
    ∀ i, i < ss.length → w.cell? ⟨g, i, none⟩ = some (.string (ss[i]?.getD ByteArray.empty)) ∧ w.frozen? ⟨g, i, none⟩ = false)
theorem OwnStrs.keep {w w' : World} {B : Nat} {v : Value} {ss : List ByteArray} (h : OwnStrs w B v ss) (hb : Below w.heap.size w w') : OwnStrs w' B v ss := by
  obtain ⟨a, cap, rfl, hcap, hc⟩ := h
  refine ⟨a, cap, rfl, hcap, fun h0 => ?_⟩
  obtain ⟨g, rfl, hB, hlt, hcell⟩ := hc h0
  exact ⟨g, rfl, hB, Nat.lt_of_lt_of_le hlt hb.size, fun i hi => ⟨(hb.cell (p := ⟨g, i, none⟩) hlt).trans (hcell i hi).1, (hb.frozen (p := ⟨g, i, none⟩) hlt).trans (hcell i hi).2⟩⟩
theorem OwnStrs.strsAt {w : World} {B : Nat} {v : Value} {ss : List ByteArray} (h : OwnStrs w B v ss) : StrsAt w v ss := by
  obtain ⟨a, cap, rfl, hcap, hc⟩ := h
  refine ⟨a, cap, rfl, fun h0 => ?_⟩
  obtain ⟨g, rfl, hB, hlt, hcell⟩ := hc h0
  exact ⟨g, 0, rfl, hlt, fun i hi => by rw [Nat.zero_add]; exact (hcell i hi).1⟩
theorem OwnStrs.more {w : World} {B C : Nat} {v : Value} {ss : List ByteArray} (h : OwnStrs w B v ss) (hB : C ≤ B) : OwnStrs w C v ss := by
  obtain ⟨a, cap, rfl, hcap, hc⟩ := h
  refine ⟨a, cap, rfl, hcap, fun h0 => ?_⟩
  obtain ⟨g, rfl, hB', hlt, hcell⟩ := hc h0
  exact ⟨g, rfl, by omega, hlt, hcell⟩
/-- As StrsAt, the block below B. -/
def StrsIn (w : World) (B : Nat) (v : Value) (ss : List ByteArray) : Prop :=
  ∃ (a : Option Addr) (cap : Nat), v = .slice a ss.length cap ∧ (0 < ss.length → ∃ b off, a = some ⟨b, off, none⟩ ∧ b < B ∧ ∀ i, i < ss.length → w.cell? ⟨b, off + i, none⟩ = some (.string (ss[i]?.getD ByteArray.empty)))
theorem StrsAt.in_ {w : World} {v : Value} {ss : List ByteArray} (h : StrsAt w v ss) : StrsIn w w.heap.size v ss := h
theorem StrsIn.keep {w w' : World} {B C : Nat} {v : Value} {ss : List ByteArray} (h : StrsIn w B v ss) (hb : Below C w w') (hC : B ≤ C) : StrsIn w' B v ss := by
  obtain ⟨a, cap, rfl, hc⟩ := h
  refine ⟨a, cap, rfl, fun h0 => ?_⟩
  obtain ⟨b, off, rfl, hlt, hcell⟩ := hc h0
  exact ⟨b, off, rfl, hlt, fun i hi => (hb.cell (p := ⟨b, off + i, none⟩) (Nat.lt_of_lt_of_le hlt hC)).trans (hcell i hi)⟩
theorem StrsIn.at_ {w : World} {B : Nat} {v : Value} {ss : List ByteArray} (h : StrsIn w B v ss) (hB : B ≤ w.heap.size) : StrsAt w v ss := by
  obtain ⟨a, cap, rfl, hc⟩ := h
  refine ⟨a, cap, rfl, fun h0 => ?_⟩
  obtain ⟨b, off, rfl, hlt, hcell⟩ := hc h0
  exact ⟨b, off, rfl, Nat.lt_of_lt_of_le hlt hB, hcell⟩
/-- What append leaves, as owned strings. -/
theorem ownStrs_of_row {w : World} {B : Nat} {e : TypeId} {v : Value} {n : Nat} {ss : List ByteArray} (h : w.ownsRow B e 1 v n (ss.map Value.string)) : OwnStrs w B v ss := by
  have hlen : ss.length = n := by have := h.1; simpa using this
  subst hlen
  rcases h.2 with ⟨rfl, h0⟩ | ⟨g, cap, cur, rfl, hB, hb, h1, h2, h3, h4⟩
  · have : ss = [] := List.eq_nil_of_length_eq_zero h0
    subst this
    exact ⟨none, 0, rfl, by simp, fun h => by simp at h⟩
  · refine ⟨_, cap, rfl, h1, fun h0 => ⟨g, rfl, hB, Blk.lt hb, fun i hi => ⟨?_, Blk.frozen hb i⟩⟩⟩
    have e1 : (ss.map Value.string)[i]? = some (.string (ss[i]?.getD ByteArray.empty)) := by
      rw [List.getElem?_map, List.getElem?_eq_getElem hi]; rfl
    rw [← h4, Nat.mul_one, List.getElem?_take, if_pos hi] at e1
    rw [cell_of_row w g i cur e (0, 0) hb]
    simpa using e1
/-- The owned row's block, whole. -/
theorem own_blk {w : World} {B : Nat} {e : TypeId} {size : Nat} {v : Value} {n : Nat} {xs : List Value} (h : w.ownsRow B e size v n xs) : ∀ g, v.ownBlock = some g → ∃ cur, Blk w g e cur := by
  intro g hg
  rcases h.2 with ⟨rfl, h0⟩ | ⟨g', cap, cur, rfl, hB, hb, h1, h2, h3, h4⟩
  · cases hg
  · obtain rfl : g' = g := Option.some.inj hg
    exact ⟨cur, hb⟩
theorem blk_type {w : World} {g : Nat} {t t' : TypeId} {cs cs' : Array Value} (h : Blk w g t cs) (h' : Blk w g t' cs') : t = t' := by
  unfold Blk at h h'
  rw [h] at h'
  injection h' with h'
  injection h' with _ ht
/-- A block of another element type stays as it is behind an append. -/
theorem blk_grown {w w' : World} {B g : Nat} {e t : TypeId} {size : Nat} {v : Value} {n : Nat} {xs : List Value} {cs : Array Value} (h : Blk w g t cs) (hown : w.ownsRow B e size v n xs) (hg : w.grownBy w' v.ownBlock) (hne : t ≠ e) : Blk w' g t cs := by
  refine (hg.block g h.lt (fun e1 => ?_)).trans h
  obtain ⟨cur, hc⟩ := own_blk hown g e1.symm
  exact hne (blk_type h hc)
theorem grown_of_below {w w' : World} (hb : Below w.heap.size w w') (row : Option Nat) : w.grownBy w' row := ⟨hb.os, hb.tape, hb.output, hb.size, fun k hk _ => hb.block k hk⟩
theorem own_em (v : Value) : v.ownBlock = none ∨ v.ownBlock ≠ none := Classical.em _
theorem own_keep {w w' : World} {B : Nat} {e : TypeId} {size : Nat} {v : Value} {n : Nat} {xs : List Value} (h : w.ownsRow B e size v n xs) (hb : Below w.heap.size w w') : w'.ownsRow B e size v n xs :=
  h.kept (grown_of_below hb none) (own_em v)
theorem below_own {B : Nat} {w w1 w2 : World} {e : TypeId} {size : Nat} {v : Value} {n : Nat} {xs : List Value} (h : Below B w w1) (hown : w1.ownsRow B e size v n xs) (hg : w1.grownBy w2 v.ownBlock) (hB : B ≤ w1.heap.size) : Below B w w2 :=
  h.grown hg hB (fun k hk => (hown.lt k hk).1)
/-- One element laid for an append. -/
theorem news_one {w : World} {u : Value} {t : TypeId} : ∀ (j : Nat) (x : Value), [u][j]? = some x → (w.alloc (.cells #[u] t)).cell? ((⟨w.heap.size, 0, none⟩ : Addr).add j) = some x := by
  intro j x hj
  match j, hj with
  | 0, hj => simp at hj; subst hj; simp [Addr.add]
end Go.Proofs.YtnibknaemgpjdaaDoor
