/- SplitAny of the reference, its result an owned row. -/
import Derived.Test.YtnibknaemgpjdaaDoorSplT
namespace Go.Proofs.YtnibknaemgpjdaaDoor
open Go.RowKit
def SplitRes3 (s p : ByteArray) (w : World) (e : Ending) (w' : World) : Prop := ∃ v, e = .returned v ∧ w'.ownsRow w.heap.size 9 1 v (pieces s (sepB p)).length ((pieces s (sepB p)).map Value.string) ∧ Below w.heap.size w w'
set_option maxHeartbeats 1000000 in
set_option maxRecDepth 100000 in
theorem splitS3 (s p : ByteArray) (w : World) (hs : s.size ≤ 1048576) (hp : p.size ≤ 1048576) : Calls Tryd.prog 41 #[.string s, .string p] w (SplitRes3 s p w) := by
  obtain ⟨i0, hi, hz0, hz1, hz2⟩ := info_parts infoStr
  have hown0 : (w.alloc (.cells #[] 9)).ownsRow w.heap.size 9 1 (.slice (some ⟨w.heap.size, 0, none⟩) 0 0) 0 [] := World.ownsRow_made w #[] 0 (Nat.le_refl _) (by decide) rfl
  have hB0 := below1 w (.cells #[] 9)
  have HO := Lib.hid hown0
  clear hown0
  go_enter Tryd.func41, Tryd.ntmps41
  go_wp2
  go_loopw [5, 6, 7] (fun v fr i wr => ∃ k : Nat, k ≤ s.size ∧ i = .int .i64 k ∧ fr = .int .i64 ((cuts s (sepB p) k).2 : Nat) ∧ wr.ownsRow w.heap.size 9 1 v (cuts s (sepB p) k).1.length ((cuts s (sepB p) k).1.map Value.string) ∧ Below w.heap.size w wr) (fun _ _ i _ => s.size - (intOf i).toNat)
  case atStart => exact ⟨0, Nat.zero_le _, rfl, rfl, HO.out, hB0⟩
  case round =>
    obtain ⟨k, hk, rfl, rfl, hown, hB⟩ := hrel
    have hsz := hB.size
    have hfr := cuts_from s (sepB p) k
    have hln := cuts_len s (sepB p) k
    clear HO hB0
    obtain ⟨wo, rfl⟩ : ∃ wo : World, wo = wr := ⟨_, rfl⟩
    by_cases hlt : k < s.size
    · obtain ⟨c, hc⟩ : ∃ c : UInt8, c = s[k]'hlt := ⟨_, rfl⟩
      have HC := Lib.hid hc
      have HW := Lib.hid hown
      go_wp2
      clear hc hown
      go_loopw [5, 6, 8] (fun v fr j wr => v = u5 ∧ fr = .int .i64 ((cuts s (sepB p) k).2 : Nat) ∧ ∃ t : Nat, t ≤ p.size ∧ j = .int .i64 t ∧ (∀ r (hr : r < p.size), r < t → (p[r]'hr) ≠ s[k]'hlt) ∧ ∃ nq, wr = wo.drewN nq) (fun _ _ j _ => p.size - (intOf j).toNat)
      case atStart => exact ⟨rfl, rfl, 0, Nat.zero_le _, rfl, fun r hr h0 => by omega, 0, rfl⟩
      case round =>
        obtain ⟨rfl, rfl, t, ht, rfl, hno, nq, rfl⟩ := hrel
        have HN := Lib.hid hno
        clear hno
        by_cases hlt2 : t < p.size
        · have hk0 : (0 : Int) ≤ (k : Int) := by omega
          have hk1 : (k : Int) < (s.size : Int) := by omega
          have ht0 : (0 : Int) ≤ (t : Int) := by omega
          have ht1 : (t : Int) < (p.size : Int) := by omega
          by_cases he : s[k]'hlt = p[t]'hlt2
          · have hd := byte_eq he
            have HH := Lib.hid (cuts_hit hlt (sepB_at hlt2 he.symm))
            clear he
            have KO : ∀ a, (wo.drewN a).ownsRow w.heap.size 9 1 u5 (cuts s (sepB p) k).1.length ((cuts s (sepB p) k).1.map Value.string) := fun a => own_drewN HW.out a
            have KB : ∀ a, Below w.heap.size w (wo.drewN a) := fun a => below_drewN hB a
            go_wp2_with fail
            go_quiet (fail)
            go_wp2_with (at_builtin; refine wpList_append_own _ rfl _ _ 50 rfl w.heap.size 9 i0 (.string ByteArray.empty) 1 16 Tryd.underlying50 hi hz0 hz1 hz2 rfl (by decide) _ _ _ rfl ((KO _).alloc _) ⟨wo.heap.size, 0, none⟩ 1 1 [.string (s.extract (cuts s (sepB p) k).2 k)] rfl rfl ?c1 ?c2 ?c3 ?c4 ?c5 ?_)
            case c1 => exact news_one
            case c2 => intro u hu; simp at hu; subst hu; rfl
            case c3 => unfold maxLen; omega
            case c4 => omega
            case c5 => simp; omega
            intro v' w1 hown' hgrow _
            have hB1 := below_own ((KB _).alloc (by simp; omega) _) ((KO _).alloc _) hgrow (by simp; omega)
            clear hgrow KO KB hB
            go_wp2
            go_roundw
            case rel => exact ⟨k + 1, by omega, by go_num, by rw [HH.out]; go_num, by rw [HH.out]; simpa using hown', hB1⟩
            case measure => simp [intOf]; omega
          · have hd := byte_ne he
            have HE := Lib.hid he
            clear he
            go_wp2_with fail
            go_quiet (fail)
            go_wp2
            go_roundw
            case rel => exact ⟨rfl, rfl, t + 1, by omega, by go_num, fun r hr h0 => by
              by_cases h1 : r = t
              · subst h1; exact fun e => HE.out e.symm
              · exact HN.out r hr (by omega), _, rfl⟩
            case measure => simp [intOf]; omega
        · have HH := Lib.hid (cuts_miss hlt (sepB_upto (p := p) (fun r hr => HN.out r hr (by omega))))
          go_wp2
          go_roundw
          case rel => exact ⟨k + 1, by omega, by go_num, by rw [HH.out], by rw [HH.out]; exact own_drewN HW.out _, below_drewN hB _⟩
          case measure => simp [intOf]; omega
    · obtain rfl : k = s.size := by omega
      go_wp2_with (at_builtin; refine wpList_append_own _ rfl _ _ 50 rfl w.heap.size 9 i0 (.string ByteArray.empty) 1 16 Tryd.underlying50 hi hz0 hz1 hz2 rfl (by decide) _ _ _ rfl (hown.alloc _) ⟨wo.heap.size, 0, none⟩ 1 1 [.string (s.extract (cuts s (sepB p) s.size).2 s.size)] rfl rfl ?d1 ?d2 ?d3 ?d4 ?d5 ?_)
      case d1 => exact news_one
      case d2 => intro u hu; simp at hu; subst hu; rfl
      case d3 => unfold maxLen; omega
      case d4 => omega
      case d5 => simp; omega
      intro v' w1 hown' hgrow _
      have hB1 := below_own (hB.alloc hsz _) (hown.alloc _) hgrow (by simp; omega)
      clear hgrow hown hB
      go_wp2
      go_ret
      exact ⟨_, rfl, by unfold pieces; simpa using hown', hB1⟩
end Go.Proofs.YtnibknaemgpjdaaDoor
