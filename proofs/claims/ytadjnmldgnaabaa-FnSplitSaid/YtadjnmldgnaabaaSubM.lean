/- Slices of parts of patches: equality, marks. -/
import Derived.Test.YtadjnmldgnaabaaTri
import Derived.Test.YtadjnmldgnaabaaVec2
import Derived.Deep.QuietTactic
import Derived.BigQuiet
namespace Go.Proofs.Ytadjnmldgnaabaa
open Go Go.RowKit

/-- A slice of n structs of three ints, in a block of the call's own: the ints, one after another. -/
def SubsAt (w : World) (B : Nat) (v : Value) (n : Nat) (f : Nat → Int) : Prop :=
  ∃ (a : Option Addr) (cap : Nat), v = .slice a n cap ∧ n ≤ cap ∧ (0 < n → ∃ g, a = some ⟨g, 0, none⟩ ∧ B ≤ g ∧ g < w.heap.size ∧
    ∀ i, i < n * 3 → w.cell? ⟨g, i, none⟩ = some (.int .i64 (f i)) ∧ w.frozen? ⟨g, i, none⟩ = false)
theorem SubsAt.keep {w w' : World} {B : Nat} {v : Value} {n : Nat} {f : Nat → Int} (h : SubsAt w B v n f) (hb : Below w.heap.size w w') : SubsAt w' B v n f := by
  obtain ⟨a, cap, rfl, hcap, hc⟩ := h
  refine ⟨a, cap, rfl, hcap, fun h0 => ?_⟩
  obtain ⟨g, rfl, h1, h2, h3⟩ := hc h0
  exact ⟨g, rfl, h1, Nat.lt_of_lt_of_le h2 hb.size, fun i hi => ⟨(hb.cell (p := ⟨g, i, none⟩) h2).trans (h3 i hi).1, (hb.frozen (p := ⟨g, i, none⟩) h2).trans (h3 i hi).2⟩⟩
theorem SubsAt.congr {w : World} {B : Nat} {v : Value} {n : Nat} {f f' : Nat → Int} (h : SubsAt w B v n f) (he : ∀ i, i < n * 3 → f i = f' i) : SubsAt w B v n f' := by
  obtain ⟨a, cap, rfl, hcap, hc⟩ := h
  refine ⟨a, cap, rfl, hcap, fun h0 => ?_⟩
  obtain ⟨g, rfl, h1, h2, h3⟩ := hc h0
  exact ⟨g, rfl, h1, h2, fun i hi => by rw [← he i hi]; exact h3 i hi⟩
theorem SubsAt.mono {w : World} {B B' : Nat} {v : Value} {n : Nat} {f : Nat → Int} (h : SubsAt w B v n f) (hB : B' ≤ B) : SubsAt w B' v n f := by
  obtain ⟨a, cap, rfl, hcap, hc⟩ := h
  refine ⟨a, cap, rfl, hcap, fun h0 => ?_⟩
  obtain ⟨g, rfl, h1, h2, h3⟩ := hc h0
  exact ⟨g, rfl, Nat.le_trans hB h1, h2, h3⟩
theorem SubsAt.set_ {w : World} {B g n cap i : Nat} {f : Nat → Int} (h : SubsAt w B (.slice (some ⟨g, 0, none⟩) n cap) n f) (h0 : 0 < n) (hi : i < n * 3) (x : Int) :
    SubsAt (w.setCell ⟨g, i, none⟩ (.int .i64 x)) B (.slice (some ⟨g, 0, none⟩) n cap) n (fun t => if t = i then x else f t) := by
  obtain ⟨a, cap', hv, hcap, hc⟩ := h
  obtain ⟨rfl, rfl⟩ : some ⟨g, 0, none⟩ = a ∧ cap = cap' := by injection hv with h1 h2 h3; exact ⟨h1, h3⟩
  obtain ⟨g', hg, h1, h2, h3⟩ := hc h0
  obtain rfl : g = g' := by injection hg with hg; injection hg
  refine ⟨_, cap, rfl, hcap, fun _ => ⟨g, rfl, h1, by simpa [World.setCell] using h2, fun t ht => ?_⟩⟩
  obtain ⟨c1, c2⟩ := h3 t ht
  refine ⟨?_, by simpa using c2⟩
  by_cases hti : t = i
  · subst hti
    dsimp only
    rw [if_pos rfl, World.cell?_setCell_same' _ _ _ (by rw [c1]; rfl)]
  · dsimp only
    rw [if_neg hti, World.cell?_setCell_other _ _ _ _ (fun e => by injection e with _ e2 _; exact hti e2.symm)]
    exact c1
theorem SubsAt.at_ {w : World} {B n : Nat} {a : Option Addr} {cap : Nat} {f : Nat → Int} (h : SubsAt w B (.slice a n cap) n f) (h0 : 0 < n) : ∃ g, a = some ⟨g, 0, none⟩ ∧ B ≤ g ∧ g < w.heap.size ∧
    ∀ i, i < n * 3 → w.cell? ⟨g, i, none⟩ = some (.int .i64 (f i)) ∧ w.frozen? ⟨g, i, none⟩ = false := by
  obtain ⟨a', cap', hv, _, hc⟩ := h
  injection hv with h1
  subst h1
  exact hc h0
set_option maxHeartbeats 2000000 in
set_option maxRecDepth 100000 in
theorem eqSub_same (x y z : Int) (w : World) :
    Calls Try.prog 18 #[.agg #[.int .i64 (x), .int .i64 (y), .int .i64 (z)], .agg #[.int .i64 (x), .int .i64 (y), .int .i64 (z)]] w fun e w' => e = .returned (.bool true) ∧ Below w.heap.size w w' := by
  have hB := below2 w (.cells #[.int .i64 (x), .int .i64 (y), .int .i64 (z)] 26) (.cells #[.int .i64 (x), .int .i64 (y), .int .i64 (z)] 26)
  go_enter Try.func18, Try.ntmps18
  go_wp2
  go_ret
  exact ⟨rfl, hB⟩
set_option maxHeartbeats 4000000 in
set_option maxRecDepth 100000 in
theorem eqSubs_same (v1 v2 : Value) (n B1 B2 : Nat) (f : Nat → Int) (w : World) (h1 : SubsAt w B1 v1 n f) (h2 : SubsAt w B2 v2 n f) (hn : n ≤ 1048576) :
    Calls Try.prog 8 #[v1, v2] w fun e w' => e = .returned (.bool true) ∧ Below w.heap.size w w' := by
  obtain ⟨a1, cap1, rfl, _, hc1⟩ := h1
  obtain ⟨a2, cap2, rfl, _, hc2⟩ := h2
  have hB0 : Below w.heap.size w w := Below.refl _ _
  have HC1 := Lib.hid hc1
  have HC2 := Lib.hid hc2
  clear hc1 hc2
  go_enter Try.func8, Try.ntmps8
  go_wp2
  go_loopw [5] (fun j wr => ∃ k : Nat, k ≤ n ∧ j = .int .i64 k ∧ Below w.heap.size w wr) (fun j _ => n - (intOf j).toNat)
  case atStart => exact ⟨0, by omega, rfl, hB0⟩
  case round =>
    obtain ⟨k, hk, rfl, hB⟩ := hrel
    clear hB0
    by_cases hlt : k < n
    · obtain ⟨g1, rfl, _, l1, c1⟩ := HC1.out (by omega)
      obtain ⟨g2, rfl, _, l2, c2⟩ := HC2.out (by omega)
      have hT1 : Thr wr g1 (k * 3) (f (k * 3)) (f (k * 3 + 1)) (f (k * 3 + 2)) := ⟨Nat.lt_of_lt_of_le l1 hB.size, Three.keep ⟨(c1 _ (by omega)).1, (c1 _ (by omega)).1, (c1 _ (by omega)).1⟩ hB l1⟩
      have hT2 : Thr wr g2 (k * 3) (f (k * 3)) (f (k * 3 + 1)) (f (k * 3 + 2)) := ⟨Nat.lt_of_lt_of_le l2 hB.size, Three.keep ⟨(c2 _ (by omega)).1, (c2 _ (by omega)).1, (c2 _ (by omega)).1⟩ hB l2⟩
      clear c1 c2 HC1 HC2
      generalize f (k * 3) = x at hT1 hT2
      generalize f (k * 3 + 1) = y at hT1 hT2
      generalize f (k * 3 + 2) = z at hT1 hT2
      have hk0 : (0 : Int) ≤ (k : Int) := by omega
      have hk1 : (k : Int) < (n : Int) := by omega
      go_wp2_with fail
      go_region_held3 (fun w' => (w'.cell? ⟨g1, k * 3, none⟩ = some (.int .i64 x) ∧ w'.cell? ⟨g1, k * 3 + 1, none⟩ = some (.int .i64 y) ∧ w'.cell? ⟨g1, k * 3 + 2, none⟩ = some (.int .i64 z)) ∧ (w'.cell? ⟨g2, k * 3, none⟩ = some (.int .i64 x) ∧ w'.cell? ⟨g2, k * 3 + 1, none⟩ = some (.int .i64 y) ∧ w'.cell? ⟨g2, k * 3 + 2, none⟩ = some (.int .i64 z)))
        (first | with_reducible exact ⟨hT1.cells, hT2.cells⟩ | with_reducible exact ⟨hT1.drew.cells, hT2.drew.cells⟩)
        (first
          | (go_at_call 18; refine (eqSub_same x y z _).mono ?_; rintro e w1 ⟨rfl, hb⟩; replace hB := (by with_reducible first | exact b_keep hb hB | exact b_keep hb hB.drew); replace hT1 := (by with_reducible first | exact Thr.keep hb hT1 | exact Thr.keep hb hT1.drew); replace hT2 := (by with_reducible first | exact Thr.keep hb hT2 | exact Thr.keep hb hT2.drew)))
      go_wp2
      go_roundw
      case rel => exact ⟨k + 1, by omega, by go_num, hB⟩
      case measure => simp [intOf]; omega
    · have hk1 : ¬ ((k : Int) < (n : Int)) := by omega
      go_wp2
      go_ret
      exact ⟨rfl, hB⟩
def MarkSRes (B k : Nat) (v : Value) (n : Nat) (w : World) (e : Ending) (w' : World) : Prop := e = .returned (.int .i64 ((k + n * 3 : Nat) : Int)) ∧ SubsAt w' B v n (fun i => ((k + i : Nat) : Int)) ∧ Below B w w'
def markF (k j : Nat) (f : Nat → Int) (i : Nat) : Int := if i < j * 3 then ((k + i : Nat) : Int) else f i
set_option maxHeartbeats 4000000 in
set_option maxRecDepth 100000 in
theorem markSubs_any (B k : Nat) (v : Value) (n : Nat) (f : Nat → Int) (w : World) (h : SubsAt w B v n f) (hn : n * 3 + k ≤ 4194304) :
    Calls Try.prog 9 #[v, .int .i64 k] w (MarkSRes B k v n w) := by
  have h0 := h
  obtain ⟨a, cap, rfl, hcap, hc⟩ := h
  have hB0 : Below B w w := Below.refl _ _
  have H0 := Lib.hid h0
  clear hc h0
  go_enter Try.func9, Try.ntmps9
  go_wp2
  go_loopw [1, 5] (fun m i wr => ∃ j : Nat, j ≤ n ∧ i = .int .i64 j ∧ m = .int .i64 ((k + j * 3 : Nat) : Int) ∧ SubsAt wr B (.slice a n cap) n (markF k j f) ∧ Below B w wr) (fun _ i _ => n - (intOf i).toNat)
  case atStart => exact ⟨0, by omega, rfl, rfl, H0.out.congr (fun i _ => by unfold markF; rw [if_neg (by omega)]), hB0⟩
  case round =>
    obtain ⟨j, hj, rfl, rfl, hown, hbl⟩ := hrel
    clear H0 hB0
    by_cases hlt : j < n
    · obtain ⟨g, rfl, hBg, hgl, hcell⟩ := hown.at_ (by omega)
      have hj0 : (0 : Int) ≤ (j : Int) := by omega
      have hj1 : (j : Int) < (n : Int) := by omega
      have HO := Lib.hid hown
      obtain ⟨c0, f0⟩ := hcell (j * 3) (by omega)
      obtain ⟨c1, f1⟩ := hcell (j * 3 + 1) (by omega)
      obtain ⟨c2, f2⟩ := hcell (j * 3 + 2) (by omega)
      clear hcell hown
      generalize markF k j f (j * 3) = x0 at c0
      generalize markF k j f (j * 3 + 1) = x1 at c1
      generalize markF k j f (j * 3 + 2) = x2 at c2
      go_wp2
      go_roundw
      case rel =>
        refine ⟨j + 1, by omega, by go_num, by go_num, ?_, ((hbl.setCell (by dsimp only; omega) _).setCell (by dsimp only; omega) _).setCell (by dsimp only; omega) _⟩
        refine (((HO.out.set_ (by omega) (i := j * 3) (by omega) _).set_ (by omega) (i := j * 3 + 1) (by omega) _).set_ (by omega) (i := j * 3 + 2) (by omega) _).congr (fun i hi => ?_)
        unfold markF
        repeat' split
        all_goals omega
      case measure => simp [intOf]; omega
    · obtain rfl : j = n := by omega
      have HO := Lib.hid hown
      clear hown
      have hj1 : ¬ ((j : Int) < (j : Int)) := by omega
      go_wp2
      go_ret
      exact ⟨rfl, HO.out.congr (fun i hi => by unfold markF; rw [if_pos hi]), hbl⟩
set_option maxHeartbeats 4000000 in
set_option maxRecDepth 100000 in
theorem heldSubs_any (B k n : Nat) (v : Value) (w : World) (h : SubsAt w B v n (fun i => ((k + i : Nat) : Int))) (hn : n * 3 + k ≤ 4194304) :
    Calls Try.prog 10 #[v, .int .i64 k] w fun e w' => e = .returned (.int .i64 ((k + n * 3 : Nat) : Int)) ∧ Below w.heap.size w w' := by
  obtain ⟨a, cap, rfl, _, hc⟩ := h
  have HC := Lib.hid hc
  have hB0 : Below w.heap.size w w := Below.refl _ _
  clear hc
  go_enter Try.func10, Try.ntmps10
  go_wp2
  go_loopw [1, 5] (fun m i wr => ∃ j : Nat, j ≤ n ∧ i = .int .i64 j ∧ m = .int .i64 ((k + j * 3 : Nat) : Int) ∧ ∃ nq, wr = w.drewN nq) (fun _ i _ => n - (intOf i).toNat)
  case atStart => exact ⟨0, by omega, rfl, rfl, 0, rfl⟩
  case round =>
    obtain ⟨j, hj, rfl, rfl, nq, rfl⟩ := hrel
    by_cases hlt : j < n
    · obtain ⟨g, rfl, _, hgl, hcell⟩ := HC.out (by omega)
      have c0 := (hcell (j * 3) (by omega)).1
      have c1 := (hcell (j * 3 + 1) (by omega)).1
      have c2 := (hcell (j * 3 + 2) (by omega)).1
      have hj0 : (0 : Int) ≤ (j : Int) := by omega
      have hj1 : (j : Int) < (n : Int) := by omega
      clear HC hcell
      go_wp2
      go_roundw
      case rel => exact ⟨j + 1, by omega, by go_num, by go_num, _, rfl⟩
      case measure => simp [intOf]; omega
    · obtain rfl : j = n := by omega
      have hj1 : ¬ ((j : Int) < (j : Int)) := by omega
      go_wp2
      go_ret
      exact ⟨rfl, below_drewN hB0 _⟩
end Go.Proofs.Ytadjnmldgnaabaa
