/- What the law on words makes and compares: MakeText, sameInts. -/
import Derived.Test.YtnibknaemgpjdaaDoorCur2
import Derived.Test.YtnibknaemgpjdaaDoorInts
namespace Go.Proofs.YtnibknaemgpjdaaDoor
open Go Go.RowKit

/-- A short text; the cursor stays a cursor. -/
def GivesS (B g : Nat) (v : Value) (n : Nat) (bs : Nat → Int) (w : World) (e : Ending) (w' : World) : Prop :=
  ∃ t : ByteArray, e = .returned (.string t) ∧ t.size ≤ 2 ∧ Cur w' B g v n bs ∧ Turn g w w'
set_option maxHeartbeats 2000000 in
set_option maxRecDepth 100000 in
theorem str_any (w : World) (B g : Nat) (v : Value) (n : Nat) (bs : Nat → Int) (h : Cur w B g v n bs) (q : Nat) (cs : Array Value) (hq : Blk w q 9 cs) (hne : q ≠ g)
    (hcs : ∀ i, i < 5 → ∃ t : ByteArray, cs[i]? = some (.string t) ∧ t.size ≤ 2) :
    Calls Tryd.prog 58 #[.pointer (some ⟨g, 0, none⟩), .slice (some ⟨q, 0, none⟩) 5 5] w (GivesS B g v n bs w) := by
  have HC := Lib.hid hcs
  clear hcs
  go_enter Tryd.func58, Tryd.ntmps58
  go_wp2_with fail
  refine (below_any 5 _ _ _ _ _ _ (by omega) (by omega) h).mono ?_
  rintro e w1 ⟨x, rfl, x0, x1, hC, hT⟩
  obtain ⟨m, rfl⟩ := Int.eq_ofNat_of_zero_le x0
  replace hq := hq.turn hT hne
  obtain ⟨t, ht, hs⟩ := HC.out m (by omega)
  have c0 := (hq.cell m).trans ht
  have hm5 : (m : Int) < 5 := by omega
  have HK := Lib.hid hC
  have HT := Lib.hid hT
  have HS := Lib.hid hs
  clear hC hT hs ht hq h
  go_wp2
  go_ret
  exact ⟨t, rfl, HS.out, HK.out, HT.out⟩
def GivesSB (w : World) (e : Ending) (w' : World) : Prop := ∃ t : ByteArray, e = .returned (.string t) ∧ t.size ≤ 16 ∧ Below w.heap.size w w'
def words5 : Array Value := #[.string ⟨#[97]⟩, .string ⟨#[98, 99]⟩, .string ⟨#[32]⟩, .string ⟨#[44]⟩, .string ⟨#[120, 49]⟩]
theorem words5_at (i : Nat) (hi : i < 5) : ∃ t : ByteArray, words5[i]? = some (.string t) ∧ t.size ≤ 2 := by
  rcases (by omega : i = 0 ∨ i = 1 ∨ i = 2 ∨ i = 3 ∨ i = 4) with rfl | rfl | rfl | rfl | rfl
  · exact ⟨_, rfl, by decide⟩
  · exact ⟨_, rfl, by decide⟩
  · exact ⟨_, rfl, by decide⟩
  · exact ⟨_, rfl, by decide⟩
  · exact ⟨_, rfl, by decide⟩
set_option maxHeartbeats 4000000 in
set_option maxRecDepth 100000 in
theorem makeText_any (w : World) (B : Nat) (v : Value) (n : Nat) (bs : Nat → Int) (hB : B ≤ w.heap.size) (hn : n ≤ 1048576) (h : BytesAt w B v n bs) :
    Calls Tryd.prog 20 #[v] w (GivesSB w) := by
  go_enter Tryd.func20, Tryd.ntmps20
  go_wp2_with fail
  refine (new_any w B v n bs hB hn h).mono ?_
  rintro e w1 ⟨g, rfl, hg, hC, hb⟩
  go_wp2_with fail
  refine (below_any 8 _ _ _ _ _ _ (by omega) (by omega) hC).mono ?_
  rintro e w2 ⟨m0, rfl, m1, m2, hC1, hT1⟩
  obtain ⟨m, rfl⟩ := Int.eq_ofNat_of_zero_le m1
  have HC1 := Lib.hid hC1
  have HT1 := Lib.hid hT1
  have HB := Lib.hid hb
  clear hC hC1 hT1 hb h
  go_wp2
  go_loopw [4, 5] (fun s c wr => ∃ (k : Nat) (t : ByteArray), c = .int .i64 k ∧ s = .string t ∧ k ≤ 7 ∧ t.size + 2 * k ≤ 14 ∧ Cur wr B g v n bs ∧ Turn g w1 wr) (fun _ c _ => (intOf c).toNat)
  case atStart => exact ⟨m, ByteArray.empty, rfl, rfl, by omega, by simp; omega, HC1.out, HT1.out⟩
  case round =>
    obtain ⟨k, t, rfl, rfl, hk7, hsz, hC, hT⟩ := hrel
    clear HC1 HT1 m1 m2
    by_cases hk : 0 < k
    · have hk1 : (0 : Int) < (k : Int) := by omega
      have hk2 : (k : Int) ≤ 7 := by omega
      have hgl := hC.lt
      have hb1 := below1 wr (.cells words5 9)
      have hC2 := hC.keep hb1
      have b0 := Blk.new wr 9 words5
      have hT2 := hT.alloc (.cells words5 9)
      have HW := Lib.hid words5_at
      unfold words5 at hb1 hC2 b0 hT2 HW
      clear hC hT hb1
      go_wp2_with fail
      refine (str_any _ _ _ _ _ _ hC2 _ _ b0 (by omega) HW.out).mono ?_
      rintro e w3 ⟨u, rfl, hu, hC3, hT3⟩
      have hno : ¬ (9223372036854775807 < t.size + u.size) := by omega
      have HK := Lib.hid hC3
      have HT := Lib.hid (hT2.trans hT3)
      clear hC2 hT2 b0 hC3 hT3 HW
      go_wp2
      go_roundw
      case rel => exact ⟨k - 1, t ++ u, by congr 1; omega, rfl, by omega, by rw [ByteArray.size_append]; omega, HK.out, HT.out⟩
      case measure => simp [intOf]; omega
    · obtain rfl : k = 0 := by omega
      have HS := Lib.hid hsz
      have HB2 := Lib.hid (HB.out.trans (Turn.below hT HB.out.size hg))
      clear hsz hC hT
      go_wp2
      go_ret
      exact ⟨t, rfl, by have := HS.out; omega, HB2.out⟩
set_option maxHeartbeats 2000000 in
set_option maxRecDepth 100000 in
theorem sameInts_same (v1 v2 : Value) (xs : List Int) (w : World) (h1 : IntsAt w v1 xs) (h2 : IntsAt w v2 xs) (hn : xs.length ≤ 1048576) :
    Calls Tryd.prog 21 #[v1, v2] w fun e w' => e = .returned (.bool true) ∧ w = w' := by
  obtain ⟨a1, cap1, rfl, hc1⟩ := h1
  obtain ⟨a2, cap2, rfl, hc2⟩ := h2
  have HC1 := Lib.hid hc1
  have HC2 := Lib.hid hc2
  clear hc1 hc2
  go_enter Tryd.func21, Tryd.ntmps21
  go_wp2
  go_loopw [14] (fun j wr => ∃ k : Nat, k ≤ xs.length ∧ j = .int .i64 k ∧ w = wr) (fun j _ => xs.length - (intOf j).toNat)
  case atStart => exact ⟨0, by omega, rfl, rfl⟩
  case round =>
    obtain ⟨k, hk, rfl, rfl⟩ := hrel
    by_cases hlt : k < xs.length
    · obtain ⟨b1, o1, rfl, l1, c1⟩ := HC1.out (by omega)
      obtain ⟨b2, o2, rfl, l2, c2⟩ := HC2.out (by omega)
      have d1 := c1 k hlt
      have d2 := c2 k hlt
      clear c1 c2 HC1 HC2
      generalize xs[k]?.getD 0 = x at d1 d2
      have hk0 : (0 : Int) ≤ (k : Int) := by omega
      have hk1 : (k : Int) < (xs.length : Int) := by omega
      go_wp2
      go_roundw
      case rel => exact ⟨k + 1, by omega, by go_num, by trivial⟩
      case measure => simp [intOf]; omega
    · have hk1 : ¬ ((k : Int) < (xs.length : Int)) := by omega
      go_wp2
      go_ret
      exact ⟨rfl, by trivial⟩
end Go.Proofs.YtnibknaemgpjdaaDoor
