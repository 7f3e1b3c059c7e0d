/- IsIdentifier: the program's function and the reference's. -/
import Derived.Test.YtnibknaemgpjdaaDoorNum
import Derived.Laws.RangeAny
import Derived.Lib.Hide
namespace Go.Proofs.YtnibknaemgpjdaaDoor
open Go.RowKit

/-- A byte that may stand at place i of a name. -/
def good (c i : Nat) : Prop := (97 ≤ c ∧ c ≤ 122) ∨ (i ≠ 0 ∧ 48 ≤ c ∧ c ≤ 57)
def AllGood (s : ByteArray) (k : Nat) : Prop := ∀ i (h : i < s.size), i < k → good (s[i]'h).toNat i
def Ident (s : ByteArray) : Prop := AllGood s s.size ∧ 1 ≤ s.size ∧ s.size ≤ 8
def IdRes (s : ByteArray) (w : World) (e : Ending) (w' : World) : Prop := ∃ b : Bool, e = .returned (.bool b) ∧ (b = true ↔ Ident s) ∧ Below w.heap.size w w'

theorem allGood_zero (s : ByteArray) : AllGood s 0 := fun i _ hi => by omega
theorem allGood_succ {s : ByteArray} {k : Nat} (h : AllGood s k) (hk : k < s.size) (hg : good (s[k]'hk).toNat k) : AllGood s (k + 1) := by
  intro i hi hik
  rcases Nat.lt_or_ge i k with h1 | h1
  · exact h i hi h1
  · obtain rfl : i = k := by omega
    exact hg
theorem not_ident {s : ByteArray} {k : Nat} (hk : k < s.size) (hg : ¬ good (s[k]'hk).toNat k) : (false = true ↔ Ident s) :=
  Iff.intro (fun h => by cases h) (fun h => absurd (h.1 k hk hk) hg)
theorem ident_len {s : ByteArray} (h : AllGood s s.size) {b : Bool} (hb : b = true ↔ 1 ≤ s.size ∧ s.size ≤ 8) : (b = true ↔ Ident s) := by
  rw [hb]; exact ⟨fun x => ⟨h, x⟩, fun x => x.2⟩

set_option maxHeartbeats 400000 in
theorem isIdI (s : ByteArray) (w : World) (hs : s.size ≤ maxLen) : Calls Tryd.prog 24 #[.string s] w (IdRes s w) := by
  unfold maxLen at hs
  go_enter Tryd.func24, Tryd.ntmps24
  go_wp2
  go_loopw [] (fun w' => ∃ k : Nat, k ≤ s.size ∧ AllGood s k ∧ w' = w.iter s k) (fun w' => s.size - w'.iterPos w.heap.size)
  case atStart => exact ⟨0, Nat.zero_le _, allGood_zero s, rfl⟩
  case round =>
    obtain ⟨k, hk, hg, rfl⟩ := hrel
    have HG := Lib.hid hg
    clear hg
    by_cases hlt : k < s.size
    · by_cases ha : (s[k]'hlt).toNat < 128
      · have hnx : ∀ ty, (Instr.next (.pointer (some ⟨w.heap.size, 0, none⟩)) true ty).run Tryd.prog (w.iter s k) = _ := fun ty => run_next_ascii w s k ty hlt ha
        clear ha
        by_cases h97 : 97 ≤ ((s[k]'hlt).toNat : Int)
        · by_cases h122 : ((s[k]'hlt).toNat : Int) ≤ 122
          · have h48 : 48 ≤ ((s[k]'hlt).toNat : Int) := by omega
            have h57 : decide (((s[k]'hlt).toNat : Int) ≤ 57) = false := by simp; omega
            go_wp2
            go_roundw
            case rel => exact ⟨k + 1, by omega, allGood_succ HG.out hlt (by unfold good; omega), rfl⟩
            case measure => simp; omega
          · have hd : decide (((s[k]'hlt).toNat : Int) ≤ 122) = false := by simpa using h122
            have h57 : decide (((s[k]'hlt).toNat : Int) ≤ 57) = false := by simp; omega
            have h48 : 48 ≤ ((s[k]'hlt).toNat : Int) := by omega
            have hb : ¬ good (s[k]'hlt).toNat k := by unfold good; omega
            have HB := Lib.hid (not_ident hlt hb)
            clear hb
            go_wp2
            go_ret
            exact ⟨_, rfl, HB.out, (Below.refl _ _).alloc (Nat.le_refl _) _⟩
        · by_cases h48 : 48 ≤ ((s[k]'hlt).toNat : Int)
          · by_cases h57 : ((s[k]'hlt).toNat : Int) ≤ 57
            · by_cases h0 : ((k : Int) == 0) = true
              · have hk0 : k = 0 := by simpa using h0
                have hb : ¬ good (s[k]'hlt).toNat k := by unfold good; omega
                have HB := Lib.hid (not_ident hlt hb)
                clear hb hk0
                go_wp2
                go_ret
                exact ⟨_, rfl, HB.out, (Below.refl _ _).alloc (Nat.le_refl _) _⟩
              · have hk0 : 1 ≤ k := by
                  have : k ≠ 0 := by simpa using h0
                  omega
                have h0' : ((k : Int) == 0) = false := by simpa using h0
                clear h0
                go_wp2
                go_roundw
                case rel => exact ⟨k + 1, by omega, allGood_succ HG.out hlt (by unfold good; omega), rfl⟩
                case measure => simp; omega
            · have hb : ¬ good (s[k]'hlt).toNat k := by unfold good; omega
              have hd : decide (((s[k]'hlt).toNat : Int) ≤ 57) = false := by simpa using h57
              have HB := Lib.hid (not_ident hlt hb)
              clear hb
              go_wp2
              go_ret
              exact ⟨_, rfl, HB.out, (Below.refl _ _).alloc (Nat.le_refl _) _⟩
          · have hb : ¬ good (s[k]'hlt).toNat k := by unfold good; omega
            have HB := Lib.hid (not_ident hlt hb)
            clear hb
            go_wp2
            go_ret
            exact ⟨_, rfl, HB.out, (Below.refl _ _).alloc (Nat.le_refl _) _⟩
      · have hnx : ∀ ty, (Instr.next (.pointer (some ⟨w.heap.size, 0, none⟩)) true ty).run Tryd.prog (w.iter s k) = _ := fun ty => run_next_any w s k ty hlt
        have hb : ¬ good (s[k]'hlt).toNat k := by unfold good; omega
        have HB := Lib.hid (not_ident hlt hb)
        clear hb
        have hd := (decode_high s k hlt (by omega)).1
        generalize (Utf8.decode s k).2 = wd at hnx
        generalize (Utf8.decode s k).1 = r at hnx hd
        have h97 : 97 ≤ (r : Int) := by omega
        have h48 : 48 ≤ (r : Int) := by omega
        have h122 : decide ((r : Int) ≤ 122) = false := by simp; omega
        have h57 : decide ((r : Int) ≤ 57) = false := by simp; omega
        go_wp2
        go_ret
        exact ⟨_, rfl, HB.out, (Below.refl _ _).alloc (Nat.le_refl _) _⟩
    · have hnx : ∀ ty, (Instr.next (.pointer (some ⟨w.heap.size, 0, none⟩)) true ty).run Tryd.prog (w.iter s k) = _ := fun ty => run_next_end w s k ty hlt
      have hke : k = s.size := by omega
      have HK := Lib.hid hke
      clear hke
      go_wp2
      all_goals
        go_ret
        refine ⟨_, rfl, ?_, (Below.refl _ _).alloc (Nat.le_refl _) _⟩
        have hke := HK.out
        subst hke
        refine ident_len HG.out ?_
        simp
        omega
end Go.Proofs.YtnibknaemgpjdaaDoor
