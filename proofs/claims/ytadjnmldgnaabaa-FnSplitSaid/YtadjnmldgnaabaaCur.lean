/- The reference's cursor over the bytes of a draw: what it gives lies in its range, and it writes its own block alone. -/
import Derived.Test.YtadjnmldgnaabaaNum
import Derived.Test.YtadjnmldgnaabaaBlk
import Derived.Lib.Hide
import Derived.Deep.QuietTactic
import Derived.BigQuiet
import Derived.Laws.BitsAllLaws
import Derived.Laws.BitsLemmas
import Derived.WalkSmall
import Derived.Outline
namespace Go.Proofs.Ytadjnmldgnaabaa
open Go.RowKit

theorem and_mask (a : Int) (m : Nat) (hm : m < 9223372036854775808) : 0 ≤ bits .and .i64 a (m : Int) ∧ bits .and .i64 a (m : Int) ≤ m := by
  have e : bits .and .i64 a (m : Int) = IntKind.i64.wrap ((BitVec.ofInt 64 a &&& BitVec.ofInt 64 (m : Int)).toNat : Int) := rfl
  have h1 : (BitVec.ofInt 64 (m : Int)).toNat = m := by
    rw [BitVec.ofInt_natCast, BitVec.toNat_ofNat]; exact Nat.mod_eq_of_lt (by omega)
  have h2 : (BitVec.ofInt 64 a &&& BitVec.ofInt 64 (m : Int)).toNat ≤ m := by
    rw [BitVec.toNat_and, h1]; exact Nat.and_le_right
  generalize (BitVec.ofInt 64 a &&& BitVec.ofInt 64 (m : Int)).toNat = r at e h2
  rw [e, IntKind.wrap_i64]
  omega
theorem and_255 (a : Int) : 0 ≤ bits .and .i64 a 255 ∧ bits .and .i64 a 255 ≤ 255 := and_mask a 255 (by omega)

/-- The slice value v reads as n bytes, in a block below B. -/
def BytesAt (w : World) (B : Nat) (v : Value) (n : Nat) (bs : Nat → Int) : Prop :=
  (∀ i, 0 ≤ bs i ∧ bs i ≤ 255) ∧ ∃ (a : Option Addr) (cap : Nat), v = .slice a n cap ∧ (0 < n → ∃ b off, a = some ⟨b, off, none⟩ ∧ b < B ∧ ∀ i, i < n → w.cell? ⟨b, off + i, none⟩ = some (.int .u8 (bs i)))
theorem BytesAt.keep {w w' : World} {B : Nat} {v : Value} {n : Nat} {bs : Nat → Int} (h : BytesAt w B v n bs) (hb : Below B w w') : BytesAt w' B v n bs := by
  obtain ⟨h0, a, cap, rfl, hc⟩ := h
  refine ⟨h0, a, cap, rfl, fun hn => ?_⟩
  obtain ⟨b, off, rfl, hlt, hcell⟩ := hc hn
  exact ⟨b, off, rfl, hlt, fun i hi => (hb.cell (p := ⟨b, off + i, none⟩) hlt).trans (hcell i hi)⟩

/-- w' is w with new blocks, and with writes to block g alone. -/
abbrev Turn (g : Nat) (w w' : World) : Prop := w.grownBy w' (some g)
theorem Turn.refl (g : Nat) (w : World) : Turn g w w := ⟨rfl, rfl, rfl, Nat.le_refl _, fun _ _ _ => rfl⟩
theorem Turn.trans {g : Nat} {a b c : World} (h : Turn g a b) (k : Turn g b c) : Turn g a c :=
  ⟨k.os.trans h.os, k.tape.trans h.tape, k.output.trans h.output, Nat.le_trans h.size k.size, fun i hi hne => (k.block i (Nat.lt_of_lt_of_le hi h.size) hne).trans (h.block i hi hne)⟩
theorem Turn.drewN {g : Nat} {a w : World} (h : Turn g a w) (n : Nat) : Turn g a (w.drewN n) := ⟨h.os, h.tape, h.output, h.size, h.block⟩
theorem Turn.drew {g : Nat} {a w : World} (h : Turn g a w) : Turn g a w.drew := ⟨h.os, h.tape, h.output, h.size, h.block⟩
theorem Turn.set_ {g : Nat} {a w : World} (h : Turn g a w) (i : Nat) (u : Value) : Turn g a (w.setCell ⟨g, i, none⟩ u) :=
  h.trans ⟨rfl, rfl, rfl, by simp [World.setCell], fun k _ hne => Below.heap_setCell _ _ _ _ (fun e => hne (by rw [e]))⟩
theorem Turn.alloc {g : Nat} {a w : World} (h : Turn g a w) (o : Obj) : Turn g a (w.alloc o) :=
  h.trans ⟨rfl, rfl, rfl, by simp, fun k hk _ => Below.heap_alloc _ _ _ hk⟩
theorem Turn.of_below {g : Nat} {w w' : World} (h : Below w.heap.size w w') : Turn g w w' := ⟨h.os, h.tape, h.output, h.size, fun k hk _ => h.block k hk⟩
theorem Turn.below {g B : Nat} {w w' : World} (h : Turn g w w') (hB : B ≤ w.heap.size) (hg : B ≤ g) : Below B w w' :=
  ⟨h.os, h.tape, h.output, h.size, fun k hk => h.block k (by omega) (fun e => by have := Option.some.inj e; omega)⟩
theorem Blk.turn {g k : Nat} {w w' : World} {t : TypeId} {cs : Array Value} (h : Blk w k t cs) (ht : Turn g w w') (hne : k ≠ g) : Blk w' k t cs :=
  (ht.block k h.lt (fun e => hne (Option.some.inj e))).trans h

/-- Block g is a cursor over the n bytes of v; the bytes lie below B, and B is not above g. -/
def Cur (w : World) (B g : Nat) (v : Value) (n : Nat) (bs : Nat → Int) : Prop :=
  B ≤ g ∧ BytesAt w B v n bs ∧ ∃ (i : Nat) (h : Int), i ≤ n ∧ n ≤ 1048576 ∧ Blk w g 58 #[v, .int .i64 i, .int .i64 h]
theorem Cur.lt {w : World} {B g : Nat} {v : Value} {n : Nat} {bs : Nat → Int} (h : Cur w B g v n bs) : g < w.heap.size := by
  obtain ⟨_, _, _, _, _, _, hb⟩ := h; exact hb.lt
theorem Cur.keep {w w' : World} {B g : Nat} {v : Value} {n : Nat} {bs : Nat → Int} (h : Cur w B g v n bs) (hb : Below w.heap.size w w') : Cur w' B g v n bs := by
  have hlt := h.lt
  obtain ⟨h1, h2, i, k, h3, h4, h5⟩ := h
  exact ⟨h1, h2.keep (hb.mono (by omega)), i, k, h3, h4, Blk.keep hb h5⟩

/-- A call that gives a number from lo to hi and leaves the cursor a cursor. -/
def Gives (lo hi : Int) (B g : Nat) (v : Value) (n : Nat) (bs : Nat → Int) (w : World) (e : Ending) (w' : World) : Prop :=
  ∃ x : Int, e = .returned (.int .i64 x) ∧ lo ≤ x ∧ x ≤ hi ∧ Cur w' B g v n bs ∧ Turn g w w'

set_option maxHeartbeats 4000000 in
theorem byte_any (w : World) (B g : Nat) (v : Value) (n : Nat) (bs : Nat → Int) (h : Cur w B g v n bs) :
    Calls Try.prog 21 #[.pointer (some ⟨g, 0, none⟩)] w (Gives 0 255 B g v n bs w) := by
  obtain ⟨hBg, ⟨hbs, a, cap, rfl, hc⟩, i, hh, hi, hn, b0⟩ := h
  have hi0 : (0 : Int) ≤ (i : Int) := by omega
  have hi1 : (i : Int) ≤ 1048576 := by omega
  have hn1 : (n : Int) ≤ 1048576 := by omega
  by_cases hlt : i < n
  · obtain ⟨b, off, rfl, hbB, hcell⟩ := hc (by omega)
    have d0 := hcell i hlt
    have hbg : b ≠ g := by omega
    have hbi := hbs i
    have HC := Lib.hid hcell
    have HB := Lib.hid hbs
    clear hc hcell hbs
    obtain ⟨q0, q1⟩ := hbi
    have hi2 : (i : Int) < (n : Int) := by omega
    have hT : Turn g w (w.setCell ⟨g, 2, none⟩ (.int .i64 (wrap64 (wrap64 (hh * 6364136223846793005) + 1442695040888963407)))) := (Turn.refl g w).set_ 2 _
    have hby : BytesAt (w.setCell ⟨g, 2, none⟩ (.int .i64 (wrap64 (wrap64 (hh * 6364136223846793005) + 1442695040888963407)))) B (.slice (some ⟨b, off, none⟩) n cap) n bs :=
      BytesAt.keep ⟨HB.out, _, _, rfl, fun _ => ⟨b, off, rfl, hbB, HC.out⟩⟩ ((Below.refl B w).setCell (p := ⟨g, 2, none⟩) hBg _)
    have d1 : (w.setCell ⟨g, 2, none⟩ (.int .i64 (wrap64 (wrap64 (hh * 6364136223846793005) + 1442695040888963407)))).cell? ⟨b, off + i, none⟩ = some (.int .u8 (bs i)) :=
      (World.cell?_setCell_other w ⟨g, 2, none⟩ ⟨b, off + i, none⟩ _ (fun e => hbg (congrArg Addr.block e).symm)).trans d0
    have b1 := b0.set_ 2 (.int .i64 (wrap64 (wrap64 (hh * 6364136223846793005) + 1442695040888963407)))
    have c0 := b0.cell
    have f0 := b0.frozen
    have l0 := b0.lt
    have HD := Lib.hid d1
    have HY := Lib.hid hby
    clear d0 d1 hby HC HB
    go_enter Try.func21, Try.ntmps21
    go_wp2
    clear c0 f0 l0 b0
    generalize wrap64 (wrap64 (hh * 6364136223846793005) + 1442695040888963407) = hv at *
    generalize w.setCell ⟨g, 2, none⟩ (.int .i64 hv) = W1 at *
    replace b1 : Blk W1 g 58 #[.slice (some ⟨b, off, none⟩) n cap, .int .i64 i, .int .i64 hv] := b1
    have d0 := HD.out
    have c0 := b1.cell
    have f0 := b1.frozen
    have l0 := b1.lt
    have B1 := Lib.hid b1
    have HT := Lib.hid hT
    clear b1 hT HD
    go_quiet (fail)
    go_wp2
    go_quiet (fail)
    go_wp2
    go_quiet (fail)
    go_wp2
    go_ret
    have hn' : i + 1 ≤ n := by omega
    refine ⟨_, rfl, (and_255 _).1, (and_255 _).2, ⟨hBg, HY.out.keep ((below_drewN (Below.refl B W1) _).setCell (p := ⟨g, 1, none⟩) hBg _), i + 1, hv, hn', hn, ?_⟩, (HT.out.drewN _).set_ 1 _⟩
    exact (show Blk (W1.drewN _) g _ _ from B1.out).set_ 1 (.int .i64 ((i + 1 : Nat) : Int))
  · have hT : Turn g w (w.setCell ⟨g, 2, none⟩ (.int .i64 (wrap64 (wrap64 (hh * 6364136223846793005) + 1442695040888963407)))) := (Turn.refl g w).set_ 2 _
    have hby : BytesAt (w.setCell ⟨g, 2, none⟩ (.int .i64 (wrap64 (wrap64 (hh * 6364136223846793005) + 1442695040888963407)))) B (.slice a n cap) n bs :=
      BytesAt.keep ⟨hbs, _, _, rfl, hc⟩ ((Below.refl B w).setCell (p := ⟨g, 2, none⟩) hBg _)
    have b1 := b0.set_ 2 (.int .i64 (wrap64 (wrap64 (hh * 6364136223846793005) + 1442695040888963407)))
    have c0 := b0.cell
    have f0 := b0.frozen
    have l0 := b0.lt
    have HY := Lib.hid hby
    have hi2 : ¬ ((i : Int) < (n : Int)) := by omega
    clear hc hbs hby
    go_enter Try.func21, Try.ntmps21
    go_wp2
    clear c0 f0 l0 b0
    generalize wrap64 (wrap64 (hh * 6364136223846793005) + 1442695040888963407) = hv at *
    generalize w.setCell ⟨g, 2, none⟩ (.int .i64 hv) = W1 at *
    replace b1 : Blk W1 g 58 #[.slice a n cap, .int .i64 i, .int .i64 hv] := b1
    have c0 := b1.cell
    have f0 := b1.frozen
    have l0 := b1.lt
    have B1 := Lib.hid b1
    have HT := Lib.hid hT
    clear b1 hT
    go_quiet (fail)
    go_wp2
    go_quiet (fail)
    go_wp2
    go_ret
    exact ⟨_, rfl, (and_255 _).1, (and_255 _).2, ⟨hBg, HY.out.keep (below_drewN (below_drewN (Below.refl B W1) _) _), i, hv, hi, hn, (show Blk ((W1.drewN _).drewN _) g _ _ from B1.out)⟩, (HT.out.drewN _).drewN _⟩
end Go.Proofs.Ytadjnmldgnaabaa
