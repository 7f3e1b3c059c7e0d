/- Slices of ints: how a slice reads in memory; the laws' own copy and comparison of such slices. -/
import Derived.Test.YtnibknaemgpjdaaDoorNum
import Derived.Test.YtnibknaemgpjdaaDoorBlk
import Derived.Lib.Hide
import Derived.Deep.QuietTactic
import Derived.BigQuiet
import Derived.WalkSmall
import Derived.Laws.MakeOwn
namespace Go.Proofs.YtnibknaemgpjdaaDoor
open Go.RowKit

/-- The slice value v reads as the ints xs in world w. -/
def IntsAt (w : World) (v : Value) (xs : List Int) : Prop :=
  ∃ (a : Option Addr) (cap : Nat), v = .slice a xs.length cap ∧ (0 < xs.length → ∃ b off, a = some ⟨b, off, none⟩ ∧ b < w.heap.size ∧ ∀ i, i < xs.length → w.cell? ⟨b, off + i, none⟩ = some (.int .i64 (xs[i]?.getD 0)))

theorem IntsAt.keep {w w' : World} {v : Value} {xs : List Int} (h : IntsAt w v xs) (hb : Below w.heap.size w w') : IntsAt w' v xs := by
  obtain ⟨a, cap, rfl, hc⟩ := h
  refine ⟨a, cap, rfl, fun h0 => ?_⟩
  obtain ⟨b, off, rfl, hlt, hcell⟩ := hc h0
  exact ⟨b, off, rfl, Nat.lt_of_lt_of_le hlt hb.size, fun i hi => (hb.cell (p := ⟨b, off + i, none⟩) hlt).trans (hcell i hi)⟩

/-- Each element is an int64. -/
def I64s (xs : List Int) : Prop := ∀ i : Nat, -9223372036854775808 ≤ xs[i]?.getD 0 ∧ xs[i]?.getD 0 ≤ 9223372036854775807

theorem mid {w : World} {b off i : Nat} {x : Int} (h : w.cell? ⟨b, off + i, none⟩ = some (.int .i64 x)) : w.cell? ⟨b, off + i, none⟩ = some (.int .i64 x) := h

end Go.Proofs.YtnibknaemgpjdaaDoor
