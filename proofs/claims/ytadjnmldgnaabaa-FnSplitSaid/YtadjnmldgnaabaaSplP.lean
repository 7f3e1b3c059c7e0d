/- SplitSubPatch of the reference: the four quarters, in memory of the call's own. -/
import Derived.Test.YtadjnmldgnaabaaSubM
import Derived.Test.YtadjnmldgnaabaaSubP
import Derived.OwnWalk
import Derived.Maps.AppendAt
namespace Go.Proofs.Ytadjnmldgnaabaa
open Go Go.RowKit

theorem infoQ : (Try.prog.info? 26).map (fun i => (i.zero, i.size, i.bytes)) = some (some (.agg #[.int .i64 (0), .int .i64 (0), .int .i64 (0)]), 3, 24) := by kernel_rfl
/-- The first k quarters' numbers. -/
def zsN (u v n : Int) : Nat → List Int
  | 0 => []
  | k + 1 => zsN u v n k ++ [2 * u + ((k % 2 : Nat) : Int), 2 * v + ((k / 2 : Nat) : Int), 2 * n]
theorem zsN_len (u v n : Int) : ∀ k, (zsN u v n k).length = k * 3
  | 0 => rfl
  | k + 1 => by rw [zsN, List.length_append, zsN_len u v n k]; simp; omega
/-- May it be split? -/
def spOk (u v n : Int) : Bool := subOk u v n && !(n == 64)
/-- How many quarters. -/
def spN (u v n : Int) : Nat := if spOk u v n then 4 else 0
def spF (u v n : Int) (i : Nat) : Int := (zsN u v n 4)[i]?.getD 0
def SplRes (u v n : Int) (w : World) (e : Ending) (w' : World) : Prop := ∃ r, e = .returned r ∧ SubsAt w' w.heap.size r (spN u v n) (spF u v n) ∧ Below w.heap.size w w'
theorem splRes_no {u v n : Int} {w w' : World} (h : spOk u v n = false) (hb : Below w.heap.size w w') : SplRes u v n w (.returned (.slice none 0 0)) w' := by
  refine ⟨_, rfl, ⟨none, 0, ?_, by simp [spN, h], fun h0 => ?_⟩, hb⟩
  · simp [spN, h]
  · simp [spN, h] at h0
theorem subsAt_of_own {w : World} {B : Nat} {e : TypeId} {v : Value} {n : Nat} {zs : List Int} (hl : zs.length = n * 3) (h : w.ownsRow B e 3 v n (zs.map (Value.int .i64))) : SubsAt w B v n (fun i => zs[i]?.getD 0) := by
  rcases h.2 with ⟨rfl, h0⟩ | ⟨g, cap, cur, rfl, hB, hb, h1, h2, h3, h4⟩
  · subst h0
    exact ⟨none, 0, rfl, by simp, fun h => by omega⟩
  · refine ⟨_, cap, rfl, h1, fun h0 => ⟨g, rfl, hB, Blk.lt hb, fun i hi => ⟨?_, Blk.frozen hb i⟩⟩⟩
    have e1 : (zs.map (Value.int .i64))[i]? = some (.int .i64 (zs[i]?.getD 0)) := by
      rw [List.getElem?_map, List.getElem?_eq_getElem (by omega)]; rfl
    rw [← h4, List.getElem?_take, if_pos hi] at e1
    rw [cell_of_row w g i cur e (0, 0) hb]
    simpa using e1
theorem own_down {w : World} {b b' : Nat} {e : TypeId} {size n : Nat} {u : Value} {xs : List Value} (h : w.ownsRow b e size u n xs) (hb : b' ≤ b) : w.ownsRow b' e size u n xs := by
  refine ⟨h.1, ?_⟩
  rcases h.2 with h0 | ⟨g, cap, cur, h1, h2, h3⟩
  · exact .inl h0
  · exact .inr ⟨g, cap, cur, h1, Nat.le_trans hb h2, h3⟩
theorem news_arr {w : World} {cs : List Value} {t : TypeId} : ∀ (j : Nat) (x : Value), cs[j]? = some x → (w.alloc (.cells cs.toArray t)).cell? ((⟨w.heap.size, 0, none⟩ : Addr).add j) = some x := by
  intro j x hj
  have e : (⟨w.heap.size, 0, none⟩ : Addr).add j = ⟨w.heap.size, j, none⟩ := by unfold Addr.add; split <;> simp_all
  rw [e, (Blk.new w t cs.toArray).cell j]
  simpa using hj
/-- What an append of one quarter leaves. -/
theorem sub_step {w wr w' : World} {u v n : Int} {s s' : Value} {a b : Nat} (hb : b < 2) (hB : Below w.heap.size w wr) (b1 : Blk wr w.heap.size 26 #[.int .i64 (u), .int .i64 (v), .int .i64 (n)])
    (hown : wr.ownsRow (w.heap.size + 1) 26 3 s (a * 2 + b) ((zsN u v n (a * 2 + b)).map (Value.int .i64))) (o : Obj)
    (hown' : w'.ownsRow (w.heap.size + 1) 26 3 s' (a * 2 + b + 1) ((zsN u v n (a * 2 + b)).map (Value.int .i64) ++ [.int .i64 (2 * u + b), .int .i64 (2 * v + a), .int .i64 (2 * n)]))
    (hg : (wr.alloc o).grownBy w' s.ownBlock) :
    w'.ownsRow (w.heap.size + 1) 26 3 s' (a * 2 + (b + 1)) ((zsN u v n (a * 2 + (b + 1))).map (Value.int .i64)) ∧ Blk w' w.heap.size 26 #[.int .i64 (u), .int .i64 (v), .int .i64 (n)] ∧ Below w.heap.size w w' := by
  have hge : ∀ k, s.ownBlock = some k → w.heap.size + 1 ≤ k := fun k hk => (hown.lt k hk).1
  refine ⟨?_, ?_, ?_⟩
  · have e1 : (a * 2 + b) % 2 = b := by omega
    have e2 : (a * 2 + b) / 2 = a := by omega
    have e : zsN u v n (a * 2 + (b + 1)) = zsN u v n (a * 2 + b) ++ [2 * u + b, 2 * v + a, 2 * n] := by
      show zsN u v n (a * 2 + b) ++ [2 * u + (((a * 2 + b) % 2 : Nat) : Int), 2 * v + (((a * 2 + b) / 2 : Nat) : Int), 2 * n] = _
      rw [e1, e2]
    rw [e, List.map_append]
    exact hown'
  · refine (hg.block w.heap.size (b1.alloc o).lt (fun e1 => ?_)).trans (b1.alloc o)
    have := hge _ e1.symm
    omega
  · exact (hB.alloc hB.size o).grown hg (by have := hB.size; simp; omega) (fun k hk => by have := hge k hk; omega)
theorem splRes_yes {u v n : Int} {w w' : World} {r : Value} (h : spOk u v n = true) (ho : w'.ownsRow w.heap.size 26 3 r 4 ((zsN u v n 4).map (Value.int .i64))) (hb : Below w.heap.size w w') : SplRes u v n w (.returned r) w' := by
  have e : spN u v n = 4 := by simp [spN, h]
  exact ⟨r, rfl, by rw [e]; exact subsAt_of_own (zsN_len u v n 4) ho, hb⟩
theorem subOk_in {u v n : Int} (h : subOk u v n = true) : 1 ≤ n ∧ n ≤ 64 ∧ 0 ≤ u ∧ u ≤ n - 1 ∧ 0 ≤ v ∧ v ≤ n - 1 := by
  unfold subOk at h
  have h2 : pw n = true ∧ inB u 0 (n - 1) = true ∧ inB v 0 (n - 1) = true := by simpa using h
  have h3 := pw_bd h2.1
  have h4 := inB_iff.1 h2.2.1
  have h5 := inB_iff.1 h2.2.2
  omega
set_option maxHeartbeats 4000000 in
set_option maxRecDepth 100000 in
theorem splitSubS (u v n : Int) (w : World) : Calls Try.prog 5 #[.agg #[.int .i64 (u), .int .i64 (v), .int .i64 (n)]] w (SplRes u v n w) := by
  obtain ⟨i0, hi, hz0, hz1, hz2⟩ := info_parts infoQ
  have hB := below1 w (.cells #[.int .i64 (u), .int .i64 (v), .int .i64 (n)] 26)
  have b0 := Blk.new w 26 #[.int .i64 (u), .int .i64 (v), .int .i64 (n)]
  have HV := Lib.hid (fun W => isValidSubS u v n W)
  go_enter Try.func5, Try.ntmps5
  go_wp2_with fail
  generalize w.alloc (.cells #[.int .i64 (u), .int .i64 (v), .int .i64 (n)] 26) = W0 at hB b0 ⊢
  refine (HV.out _).mono ?_
  rintro e w1 ⟨rfl, hb⟩
  replace b0 : Blk w1 _ _ _ := Blk.keep hb b0
  replace hB := b_keep hb hB
  have c0 := b0.cell
  have f0 := b0.frozen
  have l0 := b0.lt
  clear hb HV
  cases hs : subOk u v n with
  | false =>
    have hN : spOk u v n = false := by unfold spOk; rw [hs]; rfl
    clear hs
    go_wp2
    go_ret
    exact splRes_no hN hB
  | true =>
    by_cases h64 : n = 64
    · have hN : spOk u v n = false := by unfold spOk; rw [hs, h64]; rfl
      subst h64
      clear hs
      go_wp2
      go_ret
      exact splRes_no hN hB
    · obtain ⟨n1, n2, u1, u2, v1, v2⟩ := subOk_in hs
      have hn64 : (n == 64) = false := by simpa using h64
      have hN : spOk u v n = true := by unfold spOk; rw [hs, hn64]; rfl
      have HN := Lib.hid hN
      clear hs hN
      have hown0 : (w1.alloc (.cells #[] 26)).ownsRow (w.heap.size + 1) 26 3 (.slice (some ⟨w1.heap.size, 0, none⟩) 0 0) 0 [] := World.ownsRow_made w1 #[] 0 b0.lt (by decide) rfl
      have hB1 := hB.alloc hB.size (.cells #[] 26)
      have b1 := b0.alloc (.cells #[] 26)
      have HO := Lib.hid hown0
      clear hown0 b0
      have hw1 : w.heap.size ≤ w1.heap.size := hB.size
      go_wp2
      clear c0 f0 l0 hB
      have B1 := Lib.hid b1
      have HB := Lib.hid hB1
      clear b1 hB1
      go_loopw [3, 4] (fun s i wr => ∃ a : Nat, a ≤ 2 ∧ i = .int .i64 a ∧ wr.ownsRow (w.heap.size + 1) 26 3 s (a * 2) ((zsN u v n (a * 2)).map (Value.int .i64)) ∧ Blk wr w.heap.size 26 #[.int .i64 (u), .int .i64 (v), .int .i64 (n)] ∧ Below w.heap.size w wr) (fun _ i _ => 2 - (intOf i).toNat)
      case atStart => exact ⟨0, by omega, rfl, by simpa [zsN] using HO.out, B1.out, HB.out⟩
      case round =>
        obtain ⟨a, ha, rfl, hown, b1, hB⟩ := hrel
        clear HO B1 HB
        by_cases hlt : a < 2
        · have ha1 : (a : Int) < 2 := by omega
          have HO := Lib.hid hown
          have B1 := Lib.hid b1
          have HB := Lib.hid hB
          clear hown b1 hB
          go_wp2
          go_loopw [3, 5] (fun s i wr => ∃ b : Nat, b ≤ 2 ∧ i = .int .i64 b ∧ wr.ownsRow (w.heap.size + 1) 26 3 s (a * 2 + b) ((zsN u v n (a * 2 + b)).map (Value.int .i64)) ∧ Blk wr w.heap.size 26 #[.int .i64 (u), .int .i64 (v), .int .i64 (n)] ∧ Below w.heap.size w wr) (fun _ i _ => 2 - (intOf i).toNat)
          case atStart => exact ⟨0, by omega, rfl, HO.out, B1.out, HB.out⟩
          case round =>
            obtain ⟨b, hb, rfl, hown, b1, hB⟩ := hrel
            clear HO B1 HB
            by_cases hltb : b < 2
            · have hb1 : (b : Int) < 2 := by omega
              have c0 := b1.cell
              have l0 := b1.lt
              have hsz := hB.size
              go_wp2_with (at_builtin; refine wpList_append_own _ rfl _ _ 24 rfl (w.heap.size + 1) 26 i0 (.agg #[.int .i64 (0), .int .i64 (0), .int .i64 (0)]) 3 24 Try.underlying24 hi hz0 hz1 hz2 rfl (by decide) _ _ _ rfl (hown.alloc _) ⟨wr.heap.size, 0, none⟩ 1 1 [.int .i64 (2 * u + b), .int .i64 (2 * v + a), .int .i64 (2 * n)] rfl rfl ?d1 ?d2 ?d3 ?d4 ?d5 ?_)
              case d1 => exact news_arr
              case d2 => intro x hx; simp at hx; rcases hx with rfl | rfl | rfl <;> rfl
              case d3 => unfold maxLen; omega
              case d4 => omega
              case d5 => simp; omega
              intro v' w2 hown' hgrow _
              have R := sub_step hltb hB b1 hown _ hown' hgrow
              have HR := Lib.hid R
              clear R hown' hgrow hown hB b1 c0
              go_wp2
              go_roundw
              case rel => exact ⟨b + 1, by omega, by go_num, HR.out⟩
              case measure => simp [intOf]; omega
            · obtain rfl : b = 2 := by omega
              have HO := Lib.hid hown
              have B1 := Lib.hid b1
              have HB := Lib.hid hB
              clear hown b1 hB
              go_wp2
              go_roundw
              case rel => exact ⟨a + 1, by omega, by go_num, by rw [show (a + 1) * 2 = a * 2 + 2 by omega]; exact HO.out, B1.out, HB.out⟩
              case measure => simp [intOf]; omega
        · obtain rfl : a = 2 := by omega
          go_wp2
          go_ret
          exact splRes_yes HN.out (own_down hown (by omega)) hB
end Go.Proofs.Ytadjnmldgnaabaa
