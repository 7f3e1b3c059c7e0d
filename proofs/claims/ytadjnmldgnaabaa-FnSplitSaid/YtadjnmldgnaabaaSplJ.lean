/- The program's SplitSubPatch: the caller of the range over a function. -/
import Derived.Test.YtadjnmldgnaabaaSplI
namespace Go.Proofs.Ytadjnmldgnaabaa
open Go Go.RowKit Go.Shelf
attribute [local go_sem] Oper.semAt_some

/-- The numbers of the quarters that have come. -/
def zsP (u v n : Int) (l : List Cell2) : List Int := l.flatMap fun x => [2 * u + x.1.1, 2 * v + x.1.2, 2 * n]
theorem zsP_snoc (u v n : Int) (l : List Cell2) (x : Cell2) : zsP u v n (l ++ [x]) = zsP u v n l ++ [2 * u + x.1.1, 2 * v + x.1.2, 2 * n] := by simp [zsP]
theorem zsP_quad (u v n : Int) : zsP u v n quad = zsN u v n 4 := by simp [zsP, quad, zsN]
/-- Between two rounds: the slice's box (block B), the argument's block g, the iterator's block m. -/
def Between (g B m : Nat) (u v n : Int) (w : World) (pre : List Cell2) (W : World) : Prop :=
  (∃ s, Boxed W B 24 s ∧ W.ownsRow (g + 1) 26 3 s pre.length ((zsP u v n pre).map (Value.int .i64)) ∧ True) ∧ Boxed W m 3 (.int .i64 2) ∧ Blk W g 26 #[.int .i64 (u), .int .i64 (v), .int .i64 (n)] ∧ Below g w W
theorem blk_own {β : Type} (g : Nat) (t : TypeId) (cs : Array Value) : Own (fun (_ : β) W => Blk W g t cs) := fun s X Y row hs hg hrow =>
  (hg.block g hs.lt (fun e' => by obtain ⟨o, ho, hc⟩ := hrow g e'.symm; rw [show X.heap[g]? = _ from hs] at ho; cases ho; cases hc)).trans hs
theorem between_own (g B m b0 : Nat) (u v n : Int) (w : World) (h1 : g ≤ w.heap.size) (h2 : g ≤ b0) : OwnFrom b0 (Between g B m u v n w) :=
  OwnFrom.and (Own.from (holdsRow_own (g + 1) B 24 26 3 (fun pre : List Cell2 => pre.length) (fun pre => (zsP u v n pre).map (Value.int .i64)) (fun _ _ => True)) _)
    (OwnFrom.and (Own.from (boxed_own m 3 (fun _ => .int .i64 2)) _) (OwnFrom.and (Own.from (blk_own g 26 #[.int .i64 (u), .int .i64 (v), .int .i64 (n)]) _) (ownFrom_below h1 h2)))
/-- What an append of one quarter leaves. -/
theorem between_step {g B m : Nat} {u v n : Int} {w W w1 : World} {pre : List Cell2} {x : Cell2} {s s' : Value} {tmp : Obj} (hBm : m ≠ B) (hgB : g < B) (hgw : w.heap.size = g)
    (hs : Boxed W B 24 s) (hown : W.ownsRow (g + 1) 26 3 s pre.length ((zsP u v n pre).map (Value.int .i64))) (hm : Boxed W m 3 (.int .i64 2)) (hb : Blk W g 26 #[.int .i64 (u), .int .i64 (v), .int .i64 (n)]) (hB : Below g w W)
    (hown' : w1.ownsRow (g + 1) 26 3 s' (pre.length + 1) ((zsP u v n pre).map (Value.int .i64) ++ [.int .i64 (2 * u + x.1.1), .int .i64 (2 * v + x.1.2), .int .i64 (2 * n)])) (hgrow : (W.alloc tmp).grownBy w1 s.ownBlock) :
    Boxed w1 B 24 s ∧ KeepsOthers W (w1.setCell ⟨B, 0, none⟩ s') ∧ KeepsCell m W (w1.setCell ⟨B, 0, none⟩ s') ∧ Between g B m u v n w (pre ++ [x]) (w1.setCell ⟨B, 0, none⟩ s') := by
  have hgW : g + 1 ≤ W.heap.size := hb.lt
  obtain ⟨hv1, hv2, hr2, hk2, hb2⟩ := hs.appended (by decide) hown hgW (by omega) hown' hgrow
  have hm2 : Boxed (w1.setCell ⟨B, 0, none⟩ s') m 3 (.int .i64 2) := ((hm.alloc tmp).kept hgrow (hm.not_row (by decide) hown)).other hBm s'
  refine ⟨hv1, hk2, hm2.cell.trans hm.cell.symm, ⟨s', hv2, ?_, trivial⟩, hm2, (hb2.block g (by omega)).trans hb, hB.trans (hb2.mono (by omega))⟩
  rw [zsP_snoc, List.map_append, List.length_append]
  exact hr2

set_option maxRecDepth 100000 in
set_option maxHeartbeats 4000000 in
theorem splitSubI (u v n : Int) (w : World) : Calls Try.prog 7 #[.agg #[.int .i64 (u), .int .i64 (v), .int .i64 (n)]] w (SplRes u v n w) := by
  obtain ⟨i0, hi, hz0, hz1, hz2⟩ := info_parts infoQ
  have hB := below1 w (.cells #[.int .i64 (u), .int .i64 (v), .int .i64 (n)] 26)
  have b0 := Blk.new w 26 #[.int .i64 (u), .int .i64 (v), .int .i64 (n)]
  refine (callsIn_wide (n := 5)).1 ?_
  refine callsIn_of_wp_marks Try.func7 rfl trivial ?_ rfl
  simp only [Try.ntmps7, List.size_toArray, List.length_cons, List.length_nil, Nat.reduceAdd, Nat.reduceSub, Array.replicate_succ, Array.replicate_zero, List.push_toArray, List.append_toArray, List.nil_append, List.cons_append]
  gi_wp2
  generalize w.alloc (.cells #[.int .i64 (u), .int .i64 (v), .int .i64 (n)] 26) = W0 at hB b0 ⊢
  refine ⟨trivial, ?_⟩
  refine (callsIn_wide.2 (isValidSubI u v n W0)).mono ?_
  rintro e w1 ⟨rfl, hb⟩
  replace b0 : Blk w1 _ _ _ := Blk.keep hb b0
  replace hB := b_keep hb hB
  have c0 := b0.cell
  have f0 := b0.frozen
  have l0 := b0.lt
  clear hb
  cases hs : subOk u v n with
  | false =>
    have hN : spOk u v n = false := by unfold spOk; rw [hs]; rfl
    clear hs
    gi_wp2
    refine ⟨_, results_tmp rfl _ _ _, ?_⟩
    exact splRes_no hN hB
  | true =>
    by_cases h64 : n = 64
    · have hN : spOk u v n = false := by unfold spOk; rw [hs, h64]; rfl
      subst h64
      clear hs
      gi_wp2
      refine ⟨_, results_tmp rfl _ _ _, ?_⟩
      exact splRes_no hN hB
    · obtain ⟨n1, n2, u1, u2, v1, v2⟩ := subOk_in hs
      have hn64 : (n == 64) = false := by simpa using h64
      have hN : spOk u v n = true := by unfold spOk; rw [hs, hn64]; rfl
      have HN := Lib.hid hN
      clear hs hN
      gi_wp2
      refine ⟨trivial, ?_⟩
      refine (cells_in Fence.wide _ trivial rfl 2 _).mono ?_
      rintro e w' ⟨rfl, rfl⟩
      have bn := Blk.new w1 26 #[]
      have hown0 : (w1.alloc (.cells #[] 26)).ownsRow (w.heap.size + 1) 26 3 (.slice (some ⟨w1.heap.size, 0, none⟩) 0 0) 0 [] := World.ownsRow_made w1 #[] 0 l0 (by decide) rfl
      have bO := Boxed.new (w1.alloc (.cells #[] 26)) 24 (.slice (some ⟨w1.heap.size, 0, none⟩) 0 0)
      have bN := Boxed.new ((w1.alloc (.cells #[] 26)).alloc (.cells #[.slice (some ⟨w1.heap.size, 0, none⟩) 0 0] 24)) 3 (.int .i64 2)
      simp only [World.size_alloc] at bO bN
      have hB3 : Below w.heap.size w (((w1.alloc (.cells #[] 26)).alloc (.cells #[.slice (some ⟨w1.heap.size, 0, none⟩) 0 0] 24)).alloc (.cells #[.int .i64 2] 3)) :=
        ((hB.alloc hB.size _).alloc (by have := hB.size; simp; omega) _).alloc (by have := hB.size; simp; omega) _
      have H0 : Between w.heap.size (w1.heap.size + 1) (w1.heap.size + 1 + 1) u v n w [] (((w1.alloc (.cells #[] 26)).alloc (.cells #[.slice (some ⟨w1.heap.size, 0, none⟩) 0 0] 24)).alloc (.cells #[.int .i64 2] 3)) :=
        ⟨⟨_, bO.alloc _, (hown0.alloc _).alloc _, trivial⟩, bN, ((b0.alloc _).alloc _).alloc _, hB3⟩
      have HH := Lib.hid H0
      have hsz : (((w1.alloc (.cells #[] 26)).alloc (.cells #[.slice (some ⟨w1.heap.size, 0, none⟩) 0 0] 24)).alloc (.cells #[.int .i64 2] 3)).heap.size = w1.heap.size + 3 := by simp
      have hlt1 : w.heap.size < w1.heap.size := l0
      have hcN := bN.cell
      clear H0 bn hown0 bO bN hB3 b0 hB c0 f0 l0
      gi_wp2
      generalize ((w1.alloc (.cells #[] 26)).alloc (.cells #[.slice (some ⟨w1.heap.size, 0, none⟩) 0 0] 24)).alloc (.cells #[.int .i64 2] 3) = V at *
      obtain ⟨g, hg⟩ : ∃ g, g = w.heap.size := ⟨_, rfl⟩
      refine wpIn_rangeFunc_ownG rfl (by omega) (gf := 26) (lb := #[.pointer (some ⟨w1.heap.size + 1 + 1, 0, none⟩)]) rfl trivial (enters_of Try.func26 (by kernel_rfl) rfl)
        (cells_stops (5 - 1) (by omega) (w1.heap.size + 1 + 1) V (by omega) hcN) (fun h k => k.trans h) (fun W l o o' hl ho h1 h2 => (belowK_b (Nat.le_refl _) W l o o' hl ho h1 h2).cell (p := ⟨w1.heap.size + 1 + 1, 0, none⟩) (by dsimp only; omega)) (Below.refl _ _) (fun _ => rfl)
        (Between w.heap.size (w1.heap.size + 1) (w1.heap.size + 1 + 1) u v n w) (fun _ _ _ => False)
        (between_own _ _ _ _ u v n w (Nat.le_refl _) (by omega)) (fun _ _ _ _ _ hs _ _ => hs) HH.out
        (fun x => { tmps := #[.agg #[.int .i64 (u), .int .i64 (v), .int .i64 (n)], .pointer (some ⟨w.heap.size, 0, none⟩), .slice none 0 0, .pointer (some ⟨w1.heap.size + 1, 0, none⟩), .int .i64 x.1.1, .int .i64 x.1.2, .agg #[.int .i64 (u), .int .i64 (v), .int .i64 (n)], .bool true, .bool false, .bool false, .pointer (some ⟨w.heap.size, 2, none⟩), .int .i64 n, .bool false, .bool false, .slice (some ⟨w1.heap.size, 0, none⟩) 0 0, .func (.func 26) #[] #[.pointer (some ⟨w1.heap.size + 1 + 1, 0, none⟩)], .int .i64 x.1.1, .int .i64 x.1.2, undef, undef, undef, undef, undef, undef, undef, undef, undef, undef, undef, undef, undef, undef, undef, undef, undef, undef], defers := [] }) ?assign ?body ?done ?stop
      case assign =>
        intro l x W K hK
        dsimp only [encs2]
        gi_wp2
        exact hK
      case body =>
        rintro l pre x W ⟨⟨s, hs, hown, _⟩, hm, hb, hB⟩ hlt
        have c0 := hb.cell
        have hc := hs.cell
        have hx1 := x.2.1.1
        have hx2 := x.2.1.2
        have hy1 := x.2.2.1
        have hy2 := x.2.2.2
        have hgW : w.heap.size + 1 ≤ W.heap.size := hb.lt
        have KEY := Lib.hid (fun (w1' : World) (s' : Value) (tmp : Obj) => between_step (w := w) (x := x) (w1 := w1') (s' := s') (tmp := tmp) (by omega : w1.heap.size + 1 + 1 ≠ w1.heap.size + 1) (by omega) rfl hs hown hm hb hB)
        generalize x.1.1 = p at hx1 hx2 KEY ⊢
        generalize x.1.2 = q at hy1 hy2 KEY ⊢
        dsimp only
        clear hs hm hb hB
        gi_wp2_with (gi_at_builtin; refine wpListIn_append_own _ rfl _ _ 24 rfl (w.heap.size + 1) 26 i0 (.agg #[.int .i64 (0), .int .i64 (0), .int .i64 (0)]) 3 24 Try.underlying24 hi hz0 hz1 hz2 rfl (by decide) _ _ _ rfl (hown.alloc _) ⟨W.heap.size, 0, none⟩ 1 1 [.int .i64 (2 * u + p), .int .i64 (2 * v + q), .int .i64 (2 * n)] rfl rfl ?d1 ?d2 ?d3 ?d4 ?d5 ?_)
        case d1 => exact news_arr
        case d2 => intro y hy; simp at hy; rcases hy with rfl | rfl | rfl <;> rfl
        case d3 => unfold maxLen; omega
        case d4 => omega
        case d5 => simp; omega
        intro v' w2 hown' hgrow _
        obtain ⟨g', cap', rfl⟩ := ownsRow_succ hown'
        obtain ⟨hv1, hk2, hkc, hbt⟩ := KEY.out _ _ _ hown' hgrow
        have hc1 := hv1.cell
        have hf1 := hv1.frozen
        clear KEY hown' hgrow hown hv1 c0 hc
        have HT := Lib.hid hbt
        clear hbt
        gi_wp2
        exact ⟨hk2.from _, hkc, HT.out⟩
      case done =>
        rintro D ys W hD rfl ⟨⟨s, hs, hown, _⟩, hm, hb, hB⟩ hK
        have hc := hs.cell
        gi_wp2
        refine ⟨by simp, .inl ⟨_, _, rfl, run_takeDeferred hK, ?_⟩⟩
        rw [zsP_quad] at hown
        refine ⟨_, results_tmp rfl _ _ _, ?_⟩
        exact splRes_yes HN.out (own_down (ownsRow_putObj hown _ hK rfl) (by omega)) (hB.trans (belowK_b (w := w) (Nat.le_refl _) W D _ _ (by omega) hK rfl rfl))
      case stop =>
        rintro D c pre W _ _ h _
        exact h.elim
end Go.Proofs.Ytadjnmldgnaabaa
