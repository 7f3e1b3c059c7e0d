/- The program's SplitSubPatch: a range over a function. -/
import Derived.Test.YtadjnmldgnaabaaSplP
import Derived.RangeFuncNested
import Derived.RangeFuncBound
import Derived.RangeFuncCalls
import Derived.RangeFuncLeaves
import Derived.RangeFuncBox
import Derived.Shelf.Abstract
import Derived.Shelf.RegionOpen
import Derived.WalkKit
import Derived.OwnWalkIn
import Derived.TacticsInMore
import Derived.LoopNIn
import Derived.LoopIn
import Derived.Maps.AppendAt
namespace Go.Proofs.Ytadjnmldgnaabaa
open Go Go.RowKit Go.Shelf
attribute [local go_sem] Oper.semAt_some

/-- A cell of two columns and two rows. -/
abbrev Cell2 := { x : Int × Int // (0 ≤ x.1 ∧ x.1 ≤ 1) ∧ 0 ≤ x.2 ∧ x.2 ≤ 1 }
def encs2 (x : Cell2) : Array Value := #[.int .i64 x.1.1, .int .i64 x.1.2]
/-- The cells of two columns and two rows. -/
def quad : List Cell2 := [⟨(0, 0), by decide⟩, ⟨(1, 0), by decide⟩, ⟨(0, 1), by decide⟩, ⟨(1, 1), by decide⟩]
set_option maxHeartbeats 1000000 in
/-- cells(n): the argument is boxed; the function value captures the box. -/
theorem cells_in (F : Fence) (k : Nat) (hf : F.fn 17) (hro : F.round = none) (n : Int) (w : World) :
    CallsIn F k Try.prog 17 #[.int .i64 n] w fun e w' => e = .returned (.func (.func 26) #[] #[.pointer (some ⟨w.heap.size, 0, none⟩)]) ∧ w' = w.alloc (.cells #[.int .i64 n] 3) := by
  refine callsIn_of_wp Try.func17 rfl hf ?_ hro
  simp only [Try.ntmps17, List.size_toArray, List.length_cons, List.length_nil, Nat.reduceAdd, Nat.reduceSub, Array.replicate_succ, Array.replicate_zero, List.push_toArray, List.append_toArray, List.nil_append, List.cons_append]
  gi_wp2
  go_ret
  exact ⟨rfl, rfl⟩
/-- The iterator's own cell is as it was. -/
def KeepsCell (B : Nat) (W W' : World) : Prop := W'.cell? ⟨B, 0, none⟩ = W.cell? ⟨B, 0, none⟩
theorem bool_end {e : Ending} {A B : Prop} (h : (e = .returned (.bool true) ∧ A) ∨ (e = .returned (.bool false) ∧ B)) : ∃ t : Bool, e = .returned (.bool t) ∧ ((t = true ∧ A) ∨ (t = false ∧ B)) := by
  rcases h with ⟨rfl, h⟩ | ⟨rfl, h⟩
  · exact ⟨true, rfl, .inl ⟨rfl, h⟩⟩
  · exact ⟨false, rfl, .inr ⟨rfl, h⟩⟩
set_option maxRecDepth 100000 in
set_option maxHeartbeats 2000000 in
theorem cells1_in (n : Nat) (hn : 1 ≤ n) (l Bn : Nat) (J Jx : List Cell2 → World → Prop)
    (hJd : ∀ pre W, J pre W → J pre W.drew)
    (hY : ∀ pre x W, J pre W → pre.length < 4 → YieldAt Fence.wide (n - 1) Try.prog l (encs2 x) W fun e W' =>
      (e = .returned (.bool true) ∧ J (pre ++ [x]) W' ∧ KeepsCell Bn W W') ∨ (e = .returned (.bool false) ∧ Jx (pre ++ [x]) W'))
    (W : World) (hBn : W.cell? ⟨Bn, 0, none⟩ = some (.int .i64 2)) (h0 : J [] W) :
    CallsIn Fence.wide n Try.prog 26 #[.func (.yield l) #[] #[], .pointer (some ⟨Bn, 0, none⟩)] W fun e W' => (∃ v, e = .returned v) ∧
      ((∃ ys, ys = quad ∧ J ys W') ∨ (∃ pre, pre <+: quad ∧ Jx pre W')) := by
  refine callsIn_of_wp Try.func26 rfl trivial ?_ rfl
  simp only [Try.ntmps26, List.size_toArray, List.length_cons, List.length_nil, Nat.reduceAdd, Nat.reduceSub, Array.replicate_succ, Array.replicate_zero, List.push_toArray, List.append_toArray, List.nil_append, List.cons_append]
  gi_wp2
  gi_loopw [3] (fun i wr => ∃ k : Nat, k ≤ 4 ∧ i = .int .i64 k ∧ J (quad.take k) wr ∧ wr.cell? ⟨Bn, 0, none⟩ = some (.int .i64 2))
    (fun i _ => 4 - (intOf i).toNat)
  case atStart => exact ⟨0, Nat.zero_le _, rfl, h0, hBn⟩
  case round =>
    obtain ⟨k, hk, rfl, hJs, hnx⟩ := hrel
    have hc := hnx
    by_cases hlt : k < 4
    · rcases (by omega : k = 0 ∨ k = 1 ∨ k = 2 ∨ k = 3) with rfl | rfl | rfl | rfl
      · obtain ⟨fn, tmps, assign, body, hy, hR⟩ := hY _ ⟨(0, 0), by decide⟩ wr.drew (hJd _ _ hJs) (by simp [quad])
        dsimp only [encs2] at hy
        have mixed : Try.prog.follows .mixedOrders = true := by kernel_rfl
        have e0 : IntKind.i64.wrap 0 = 0 := by decide
        have e1 : IntKind.i64.wrap 1 = 1 := by decide
        have hJ' := hJs
        gi_wp2
        gi_region_with_o (refine hR.mono ?_; intro e W' hres0; obtain ⟨t, rfl, hres⟩ := bool_end hres0)
        all_goals
          rcases hres with ⟨rfl, hJ3, hk3⟩ | ⟨rfl, hJx3⟩
          · gi_wp2
            go_roundw
            case rel => exact ⟨1, by omega, by simp, hJ3, hk3.trans hnx⟩
            case measure => simp [intOf]
          · gi_wp2
            refine bodyPost_ret (results_none rfl _ _ _) rfl ?_
            exact ⟨⟨_, rfl⟩, .inr ⟨_, ⟨quad.drop 1, rfl⟩, hJx3⟩⟩
      · obtain ⟨fn, tmps, assign, body, hy, hR⟩ := hY _ ⟨(1, 0), by decide⟩ wr.drew (hJd _ _ hJs) (by simp [quad])
        dsimp only [encs2] at hy
        have mixed : Try.prog.follows .mixedOrders = true := by kernel_rfl
        have e0 : IntKind.i64.wrap 0 = 0 := by decide
        have e1 : IntKind.i64.wrap 1 = 1 := by decide
        have hJ' := hJs
        gi_wp2
        gi_region_with_o (refine hR.mono ?_; intro e W' hres0; obtain ⟨t, rfl, hres⟩ := bool_end hres0)
        all_goals
          rcases hres with ⟨rfl, hJ3, hk3⟩ | ⟨rfl, hJx3⟩
          · gi_wp2
            go_roundw
            case rel => exact ⟨2, by omega, by simp, hJ3, hk3.trans hnx⟩
            case measure => simp [intOf]
          · gi_wp2
            refine bodyPost_ret (results_none rfl _ _ _) rfl ?_
            exact ⟨⟨_, rfl⟩, .inr ⟨_, ⟨quad.drop 2, rfl⟩, hJx3⟩⟩
      · obtain ⟨fn, tmps, assign, body, hy, hR⟩ := hY _ ⟨(0, 1), by decide⟩ wr.drew (hJd _ _ hJs) (by simp [quad])
        dsimp only [encs2] at hy
        have mixed : Try.prog.follows .mixedOrders = true := by kernel_rfl
        have e0 : IntKind.i64.wrap 0 = 0 := by decide
        have e1 : IntKind.i64.wrap 1 = 1 := by decide
        have hJ' := hJs
        gi_wp2
        gi_region_with_o (refine hR.mono ?_; intro e W' hres0; obtain ⟨t, rfl, hres⟩ := bool_end hres0)
        all_goals
          rcases hres with ⟨rfl, hJ3, hk3⟩ | ⟨rfl, hJx3⟩
          · gi_wp2
            go_roundw
            case rel => exact ⟨3, by omega, by simp, hJ3, hk3.trans hnx⟩
            case measure => simp [intOf]
          · gi_wp2
            refine bodyPost_ret (results_none rfl _ _ _) rfl ?_
            exact ⟨⟨_, rfl⟩, .inr ⟨_, ⟨quad.drop 3, rfl⟩, hJx3⟩⟩
      · obtain ⟨fn, tmps, assign, body, hy, hR⟩ := hY _ ⟨(1, 1), by decide⟩ wr.drew (hJd _ _ hJs) (by simp [quad])
        dsimp only [encs2] at hy
        have mixed : Try.prog.follows .mixedOrders = true := by kernel_rfl
        have e0 : IntKind.i64.wrap 0 = 0 := by decide
        have e1 : IntKind.i64.wrap 1 = 1 := by decide
        have hJ' := hJs
        gi_wp2
        gi_region_with_o (refine hR.mono ?_; intro e W' hres0; obtain ⟨t, rfl, hres⟩ := bool_end hres0)
        all_goals
          rcases hres with ⟨rfl, hJ3, hk3⟩ | ⟨rfl, hJx3⟩
          · gi_wp2
            go_roundw
            case rel => exact ⟨4, by omega, by simp, hJ3, hk3.trans hnx⟩
            case measure => simp [intOf]
          · gi_wp2
            refine bodyPost_ret (results_none rfl _ _ _) rfl ?_
            exact ⟨⟨_, rfl⟩, .inr ⟨_, ⟨quad.drop 4, rfl⟩, hJx3⟩⟩
    · obtain rfl : k = 4 := by omega
      gi_wp2
      go_end0
      exact ⟨⟨_, rfl⟩, .inl ⟨_, rfl, hJs⟩⟩
/-- The function value of cells(2) has its contract. -/
theorem cells_stops (n : Nat) (hn : 1 ≤ n) (Bn : Nat) (w : World) (hBn : Bn < w.heap.size) (hc : w.cell? ⟨Bn, 0, none⟩ = some (.int .i64 2)) :
    SeqStopsK Fence.wide n Try.prog 26 #[.pointer (some ⟨Bn, 0, none⟩)] encs2 (KeepsCell Bn) (fun ys => ys = quad) (fun pre => pre <+: quad) 4 w := fun l J Jx W hW hJ _ hY h0 =>
  cells1_in n hn l Bn J Jx (fun pre V h => hJ pre V V.drew none h ⟨rfl, rfl, rfl, Nat.le_refl _, fun _ _ _ => rfl⟩ (fun r e => by cases e)) hY W ((hW.cell (p := ⟨Bn, 0, none⟩) hBn).trans hc) h0
end Go.Proofs.Ytadjnmldgnaabaa
