/- What the reference draws from a cursor: numbers, vectors. -/
import Derived.Test.YtadjnmldgnaabaaCur
namespace Go.Proofs.Ytadjnmldgnaabaa
open Go.RowKit

theorem Turn.new_ {g : Nat} {a w : World} (h : Turn g a w) {p : Addr} (hp : a.heap.size ≤ p.block) (u : Value) : Turn g a (w.setCell p u) :=
  ⟨h.os, h.tape, h.output, by have := h.size; simp [World.setCell]; omega, fun k hk hne => (Below.heap_setCell _ _ _ _ (by omega)).trans (h.block k hk hne)⟩
theorem Cur.far3 {w : World} {B g : Nat} {v : Value} {n : Nat} {bs : Nat → Int} (h : Cur w B g v n bs) {k : Nat} (hk : g < k) (a b c : Value) :
    Cur (((w.setCell ⟨k, 0, none⟩ a).setCell ⟨k, 1, none⟩ b).setCell ⟨k, 2, none⟩ c) B g v n bs := by
  obtain ⟨h1, h2, i, x, h3, h4, h5⟩ := h
  exact ⟨h1, h2.keep (below_set3 (Below.refl B w) (by omega) a b c), i, x, h3, h4, h5.far3 (by omega) a b c⟩
theorem emod_in {x m : Int} (h : 1 ≤ m) : 0 ≤ x % m ∧ x % m ≤ m - 1 := by
  have h1 := Int.emod_nonneg x (b := m) (by omega)
  have h2 := Int.emod_lt_of_pos x (b := m) (by omega)
  omega
set_option maxHeartbeats 2000000 in
theorem below_any (m : Int) (w : World) (B g : Nat) (v : Value) (n : Nat) (bs : Nat → Int) (h1 : 1 ≤ m) (h2 : m ≤ 1000000) (h : Cur w B g v n bs) :
    Calls Try.prog 27 #[.pointer (some ⟨g, 0, none⟩), .int .i64 m] w (Gives 0 (m - 1) B g v n bs w) := by
  by_cases hm : m ≤ 256
  · go_enter Try.func27, Try.ntmps27
    go_wp2_with fail
    refine (byte_any _ _ _ _ _ _ h).mono ?_
    rintro e w1 ⟨x, rfl, x0, x1, hC, hT⟩
    have hm2 := emod_in (x := x) h1
    have HM := Lib.hid hm2
    clear hm2
    go_wp2
    go_ret
    exact ⟨_, rfl, HM.out.1, HM.out.2, hC, hT⟩
  · have hm3 : (256 : Int) < m := by omega
    go_enter Try.func27, Try.ntmps27
    go_wp2_with fail
    refine (byte_any _ _ _ _ _ _ h).mono ?_
    rintro e w1 ⟨x, rfl, x0, x1, hC, hT⟩
    go_wp2_with fail
    refine (byte_any _ _ _ _ _ _ hC).mono ?_
    rintro e w2 ⟨y, rfl, y0, y1, hC2, hT2⟩
    go_wp2_with fail
    refine (byte_any _ _ _ _ _ _ hC2).mono ?_
    rintro e w3 ⟨z, rfl, z0, z1, hC3, hT3⟩
    go_wp2_with fail
    refine (byte_any _ _ _ _ _ _ hC3).mono ?_
    rintro e w4 ⟨u, rfl, u0, u1, hC4, hT4⟩
    have hm2 := emod_in (x := x * 16777216 + y * 65536 + z * 256 + u) h1
    have HM := Lib.hid hm2
    clear hm2
    go_wp2
    go_ret
    exact ⟨_, rfl, HM.out.1, HM.out.2, hC4, ((hT.trans hT2).trans hT3).trans hT4⟩

/-- A new cursor. -/
def NewCur (B : Nat) (v : Value) (n : Nat) (bs : Nat → Int) (w : World) (e : Ending) (w' : World) : Prop :=
  ∃ g, e = .returned (.pointer (some ⟨g, 0, none⟩)) ∧ w.heap.size ≤ g ∧ Cur w' B g v n bs ∧ Below w.heap.size w w'
set_option maxHeartbeats 2000000 in
theorem new_any (w : World) (B : Nat) (v : Value) (n : Nat) (bs : Nat → Int) (hB : B ≤ w.heap.size) (hn : n ≤ 1048576) (h : BytesAt w B v n bs) :
    Calls Try.prog 28 #[v] w (NewCur B v n bs w) := by
  have h0 := h
  obtain ⟨hbs, a, cap, rfl, hc⟩ := h
  have HC := Lib.hid hc
  have HS := Lib.hid hbs
  have H0 := Lib.hid h0
  clear hc hbs h0
  have hn1 : (n : Int) ≤ 1048576 := by omega
  go_enter Try.func28, Try.ntmps28
  go_wp2
  go_loop [3, 4] (fun s i => ∃ (k : Nat) (x : Int), k ≤ n ∧ i = .int .i64 k ∧ s = .int .i64 x ∧ 0 ≤ x ∧ x ≤ 2000000000) (fun _ i => n - (intOf i).toNat)
  case atStart => exact ⟨0, _, by omega, rfl, rfl, by omega, by omega⟩
  case round =>
    obtain ⟨k, x, hk, rfl, rfl, x0, x1⟩ := hrel
    by_cases hlt : k < n
    · obtain ⟨b, off, rfl, hbB, hcell⟩ := HC.out (by omega)
      have d0 := hcell k hlt
      obtain ⟨q0, q1⟩ := HS.out k
      clear HC hcell
      have hk0 : (0 : Int) ≤ (k : Int) := by omega
      have hk1 : (k : Int) < (n : Int) := by omega
      by_cases h4 : (k : Int) < 4000
      · have hm := and_mask (x * 67 + bs k + 7) 1073741823 (by omega)
        obtain ⟨m0, m1⟩ := hm
        go_wp2
        go_round
        case rel => exact ⟨k + 1, _, by omega, by go_num, rfl, by exact m0, by exact Int.le_trans m1 (by omega)⟩
        case measure => simp [intOf]; omega
      · go_wp2
        go_ret
        exact ⟨_, rfl, Nat.le_refl _, ⟨hB, H0.out.keep (below1 w _ |>.mono hB), 0, _, by omega, hn, Blk.new _ _ _⟩, below1 w _⟩
    · obtain rfl : k = n := by omega
      go_wp2
      go_ret
      exact ⟨_, rfl, Nat.le_refl _, ⟨hB, H0.out.keep (below1 w _ |>.mono hB), 0, _, by omega, hn, Blk.new _ _ _⟩, below1 w _⟩
set_option maxHeartbeats 2000000 in
theorem new32_any (mi : Int) (w : World) (B : Nat) (v : Value) (n : Nat) (bs : Nat → Int) (hm0 : 0 ≤ mi) (hm1 : mi ≤ 100) (hB : B ≤ w.heap.size) (hn : n ≤ 1048576) (h : BytesAt w B v n bs) :
    Calls Try.prog 20 #[v, .int .i64 mi] w (NewCur B v n bs w) := by
  obtain ⟨m, rfl⟩ := Int.eq_ofNat_of_zero_le hm0
  clear hm0
  go_enter Try.func20, Try.ntmps20
  go_wp2_with fail
  refine (new_any w B v n bs hB hn h).mono ?_
  rintro e w1 ⟨g, rfl, hg, hC, hb⟩
  go_wp2
  go_loopw [6] (fun i wr => ∃ k : Nat, k ≤ m ∧ i = .int .i64 k ∧ Cur wr B g v n bs ∧ Below w.heap.size w wr) (fun i _ => m - (intOf i).toNat)
  case atStart => exact ⟨0, by omega, rfl, hC, hb⟩
  case round =>
    obtain ⟨k, hk, rfl, hC2, hb2⟩ := hrel
    clear hC hb
    by_cases hlt : k < m
    · have hk1 : (k : Int) < (m : Int) := by omega
      go_wp2_with fail
      refine (byte_any _ _ _ _ _ _ hC2).mono ?_
      rintro e w2 ⟨x, rfl, x0, x1, hC3, hT⟩
      go_wp2
      go_roundw
      case rel => exact ⟨k + 1, by omega, by go_num, hC3, hb2.trans (Turn.below hT hb2.size hg)⟩
      case measure => simp [intOf]; omega
    · obtain rfl : k = m := by omega
      go_wp2
      go_ret
      exact ⟨g, rfl, hg, hC2, hb2⟩
/-- A number from lo to hi; nothing that was there has turned. -/
def GivesB (lo hi : Int) (w : World) (e : Ending) (w' : World) : Prop := ∃ x : Int, e = .returned (.int .i64 x) ∧ lo ≤ x ∧ x ≤ hi ∧ Below w.heap.size w w'
set_option maxHeartbeats 2000000 in
theorem makeNum_any (m : Int) (w : World) (B : Nat) (v : Value) (n : Nat) (bs : Nat → Int) (hm0 : 0 ≤ m) (hm1 : m ≤ 100) (hB : B ≤ w.heap.size) (hn : n ≤ 1048576) (h : BytesAt w B v n bs) :
    Calls Try.prog 12 #[v, .int .i64 m] w (GivesB 0 65535 w) := by
  go_enter Try.func12, Try.ntmps12
  go_wp2_with fail
  refine (new32_any m w B v n bs hm0 hm1 hB hn h).mono ?_
  rintro e w1 ⟨g, rfl, hg, hC, hb⟩
  go_wp2_with fail
  refine (byte_any _ _ _ _ _ _ hC).mono ?_
  rintro e w2 ⟨x, rfl, x0, x1, hC2, hT⟩
  go_wp2_with fail
  refine (byte_any _ _ _ _ _ _ hC2).mono ?_
  rintro e w3 ⟨y, rfl, y0, y1, hC3, hT2⟩
  go_wp2
  go_ret
  exact ⟨_, rfl, by omega, by omega, hb.trans (Turn.below (hT.trans hT2) hb.size hg)⟩
end Go.Proofs.Ytadjnmldgnaabaa
