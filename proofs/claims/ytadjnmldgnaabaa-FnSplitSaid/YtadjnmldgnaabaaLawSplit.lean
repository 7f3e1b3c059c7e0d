/- The quarters of a patch share their edges, for all bytes. No condition. -/
import Derived.Test.YtadjnmldgnaabaaBase
import Derived.Test.YtadjnmldgnaabaaOpenB
import Derived.Test.YtadjnmldgnaabaaCurP
import Derived.Test.YtadjnmldgnaabaaSplQ
import Derived.ChangeKeysEq
import Derived.Deep.DeepCutAuto
namespace Go.Proofs.Ytadjnmldgnaabaa
open Go Go.RowKit
open Go.ChangeShapes Go.WideShapes Go.ChangeAt

set_option maxRecDepth 100000 in
set_option maxHeartbeats 16000000 in
theorem lawSplit (v : Value) (n : Nat) (bs : Nat → Int) (w : World) (h : BytesAt w w.heap.size v n bs) (hm : n ≤ maxLen) :
    Calls Try.prog 4 #[v] w fun e w' => e = .returned (.bool true) ∧ Below w.heap.size w w' := by
  unfold maxLen at hm
  have h0 := h
  obtain ⟨hbs, a, cap, rfl, hc⟩ := h
  clear hbs hc
  by_cases hbig : 1048576 < (n : Int)
  · clear h0
    go_enter Try.func4, Try.ntmps4
    go_wp2
    go_ret
    exact ⟨rfl, Below.refl _ _⟩
  · have hn : n ≤ 1048576 := by omega
    have H0 := Lib.hid h0
    clear h0
    have hB : Below w.heap.size w w := Below.refl _ _
    have hgd := guard_vec
    go_enter Try.func4, Try.ntmps4
    go_wp2_with fail
    clear hbig hm
    refine (makePatch_any 0 _ _ _ n bs (by omega) (by omega) hB.size hn (H0.out.keep hB)).mono ?_
    rintro r w1 ⟨us, rfl, hl, hs, hb⟩
    clear hl hs
    replace hB := b_keep hb hB
    clear hb
    unfold cells4
    generalize (vat us 0).1 = p0; generalize (vat us 0).2.1 = p1; generalize (vat us 0).2.2 = p2
    generalize (vat us 1).1 = p3; generalize (vat us 1).2.1 = p4; generalize (vat us 1).2.2 = p5
    generalize (vat us 2).1 = p6; generalize (vat us 2).2.1 = p7; generalize (vat us 2).2.2 = p8
    generalize (vat us 3).1 = p9; generalize (vat us 3).2.1 = p10; generalize (vat us 3).2.2 = p11
    go_wp2_with fail
    have g0 := hB.size
    have b0 := Blk.new w1 36 #[.int .i64 (p0), .int .i64 (p1), .int .i64 (p2), .int .i64 (p3), .int .i64 (p4), .int .i64 (p5), .int .i64 (p6), .int .i64 (p7), .int .i64 (p8), .int .i64 (p9), .int .i64 (p10), .int .i64 (p11)]
    replace hB := hB.alloc hB.size (.cells #[.int .i64 (p0), .int .i64 (p1), .int .i64 (p2), .int .i64 (p3), .int .i64 (p4), .int .i64 (p5), .int .i64 (p6), .int .i64 (p7), .int .i64 (p8), .int .i64 (p9), .int .i64 (p10), .int .i64 (p11)] 36)
    generalize w1.heap.size = q0 at b0 g0  ⊢
    generalize w1.alloc (.cells #[.int .i64 (p0), .int .i64 (p1), .int .i64 (p2), .int .i64 (p3), .int .i64 (p4), .int .i64 (p5), .int .i64 (p6), .int .i64 (p7), .int .i64 (p8), .int .i64 (p9), .int .i64 (p10), .int .i64 (p11)] 36) = W0 at hB b0 ⊢
    have c0 := b0.cell
    have f0 := b0.frozen
    have l0 := b0.lt
    refine (makeNum_any 1 _ _ _ n bs (by omega) (by omega) hB.size hn (H0.out.keep hB)).mono ?_
    rintro r w1 ⟨x, rfl, hx0, hx1, hb⟩
    have hB := (by with_reducible first | exact b_keep hb hB | exact b_keep hb hB.drew)
    replace b0 : Blk w1 _ _ _ := (by with_reducible first | exact Blk.keep hb b0 | exact Blk.keep hb b0.drew)
    replace l0 := b0.lt
    replace c0 := b0.cell
    replace f0 := b0.frozen
    clear hb
    have hm1 := emod_in (x := x) (m := 8) (by omega)
    go_wp2_with fail
    obtain ⟨m, hm⟩ : ∃ m, 1 + x % 8 = m := ⟨_, rfl⟩
    rw [hm]
    have hm0 : 1 ≤ m := by omega
    have hm8 : m ≤ 8 := by omega
    clear hm1 hm hx0 hx1
    refine (makeNum_any 2 _ _ _ n bs (by omega) (by omega) hB.size hn (H0.out.keep hB)).mono ?_
    rintro r w1 ⟨y, rfl, hx0, hx1, hb⟩
    have hB := (by with_reducible first | exact b_keep hb hB | exact b_keep hb hB.drew)
    replace b0 : Blk w1 _ _ _ := (by with_reducible first | exact Blk.keep hb b0 | exact Blk.keep hb b0.drew)
    replace l0 := b0.lt
    replace c0 := b0.cell
    replace f0 := b0.frozen
    clear hb
    clear H0
    have hm1 := emod_in (x := y) (m := m + 1) (by omega)
    go_wp2_with fail
    obtain ⟨j, hj⟩ : ∃ j, y % (m + 1) = j := ⟨_, rfl⟩
    rw [hj]
    have hj0 : 0 ≤ j := by omega
    have hjm : j ≤ m := by omega
    clear hm1 hj hx0 hx1
    obtain ⟨v0, v1, v2, e0, e1, e2, g1, g2, g3, g4, g5⟩ := split_small p0 p1 p2 p3 p4 p5 p6 p7 p8 p9 p10 p11 hm0 hm8 hj0 hjm
    have u3 : IntKind.i64.wrap (2 * m) = 2 * m := wrapB (by omega) (by omega)
    rw [← u3] at g5
    have G1 := Lib.hid g1
    have G2 := Lib.hid g2
    have G3 := Lib.hid g3
    have G4 := Lib.hid g4
    have G5 := Lib.hid g5
    clear g1 g2 g3 g4 g5 u3
    refine (splitSubI 0 0 1 _).mono ?_
    rintro r w1 ⟨sv, rfl, hs, hb⟩
    obtain ⟨g, cap, rfl, T, hgB⟩ := qd_of hs
    clear hs hgB
    have hB := (by with_reducible first | exact b_keep hb hB | exact b_keep hb hB.drew)
    replace b0 : Blk w1 _ _ _ := (by with_reducible first | exact Blk.keep hb b0 | exact Blk.keep hb b0.drew)
    replace l0 := b0.lt
    replace c0 := b0.cell
    replace f0 := b0.frozen
    clear hb
    have hB0 := hB
    go_upto_region 9 with fail
    go_cut [7, 8] (fun s t wx => ∃ q : Nat, s = .pointer (some ⟨q, 0, none⟩) ∧ t = .bool true ∧ Blk wx q 33 #[.int .i64 v0, .int .i64 v1, .int .i64 v2] ∧ Blk wx q0 36 #[.int .i64 (p0), .int .i64 (p1), .int .i64 (p2), .int .i64 (p3), .int .i64 (p4), .int .i64 (p5), .int .i64 (p6), .int .i64 (p7), .int .i64 (p8), .int .i64 (p9), .int .i64 (p10), .int .i64 (p11)] ∧ Qd wx g ∧ Below w.heap.size w wx)
    case first =>
      go_region_held3 (fun w' => (∀ i, w'.cell? ⟨q0, i, none⟩ = (#[.int .i64 (p0), .int .i64 (p1), .int .i64 (p2), .int .i64 (p3), .int .i64 (p4), .int .i64 (p5), .int .i64 (p6), .int .i64 (p7), .int .i64 (p8), .int .i64 (p9), .int .i64 (p10), .int .i64 (p11)] : Array Value)[i]?) ∧ (w'.cell? ⟨g, 0, none⟩ = some (.int .i64 0) ∧ w'.cell? ⟨g, 1, none⟩ = some (.int .i64 0) ∧ w'.cell? ⟨g, 2, none⟩ = some (.int .i64 2))) (first | with_reducible exact ⟨b0.cell, T.q0⟩ | with_reducible exact ⟨b0.drew.cell, T.drew.q0⟩ | with_reducible exact ⟨(b0.alloc _).cell, (T.alloc _).q0⟩ | with_reducible exact ⟨(b0.alloc _).drew.cell, (T.alloc _).drew.q0⟩ | exact ⟨(b0.far3 (by omega) _ _ _).cell, (T.far3 (by omega) _ _ _).q0⟩ | exact ⟨(b0.far3 (by omega) _ _ _).drew.cell, (T.far3 (by omega) _ _ _).drew.q0⟩)
        (first
          | (go_at_call 13; with_reducible refine (G1.out _).mono ?_; have gqT := T.lt; rintro e w1 ⟨rfl, hb⟩; (first | (replace bn := bn.keep hb) | (have bn : Blk w1 _ 33 #[.int .i64 (0), .int .i64 (0), .int .i64 (0)] := (by with_reducible first | exact Blk.keep hb (Blk.new _ _ _) | exact Blk.keep hb (Blk.new _ _ _).drew); have gq0 := b0.lt; have gq := hB.size) | skip); (first | (have cn := bn.cell; have fn := bn.frozen; have ln := bn.lt) | skip); replace hB := (by with_reducible first | exact b_keep hb hB | exact b_keep hb hB.drew | exact b_keep hb (hB.alloc hB.size _) | exact b_keep hb (hB.alloc hB.size _).drew); replace b0 : Blk w1 _ _ _ := (by with_reducible first | exact Blk.keep hb b0 | exact Blk.keep hb b0.drew | exact Blk.keep hb (b0.alloc _) | exact Blk.keep hb (b0.alloc _).drew); replace l0 := b0.lt; replace c0 := b0.cell; replace f0 := b0.frozen; replace T := (by with_reducible first | exact Qd.keep hb T | exact Qd.keep hb T.drew | exact Qd.keep hb (T.alloc _) | exact Qd.keep hb (T.alloc _).drew)))
      all_goals
        go_wp2_with fail
        go_meet
        first
          | with_reducible exact ⟨_, rfl, rfl, Blk.new _ _ _, b0.alloc _, T.alloc _, hB.alloc hB.size _⟩
          | exact ⟨_, rfl, rfl, bn.set3 _ _ _, b0.far3 (by omega) _ _ _, T.far3 (by omega) _ _ _, below_set3 hB gq _ _ _⟩
    case rest =>
      obtain ⟨q1, rfl, rfl, b1, b0, T, hB⟩ := hcut
      clear hB0
      have hB0 := hB
      have c0 := b0.cell
      have f0 := b0.frozen
      have l0 := b0.lt
      have c1 := b1.cell
      have f1 := b1.frozen
      have l1 := b1.lt
      go_upto_region 10 with fail
      go_cut [9, 10] (fun s t wx => ∃ q : Nat, s = .pointer (some ⟨q, 0, none⟩) ∧ t = .bool true ∧ Blk wx q 33 #[.int .i64 v0, .int .i64 v1, .int .i64 v2] ∧ Blk wx q0 36 #[.int .i64 (p0), .int .i64 (p1), .int .i64 (p2), .int .i64 (p3), .int .i64 (p4), .int .i64 (p5), .int .i64 (p6), .int .i64 (p7), .int .i64 (p8), .int .i64 (p9), .int .i64 (p10), .int .i64 (p11)] ∧ Blk wx q1 33 #[.int .i64 v0, .int .i64 v1, .int .i64 v2] ∧ Qd wx g ∧ Below w.heap.size w wx)
      case first =>
        go_region_held3 (fun w' => (∀ i, w'.cell? ⟨q0, i, none⟩ = (#[.int .i64 (p0), .int .i64 (p1), .int .i64 (p2), .int .i64 (p3), .int .i64 (p4), .int .i64 (p5), .int .i64 (p6), .int .i64 (p7), .int .i64 (p8), .int .i64 (p9), .int .i64 (p10), .int .i64 (p11)] : Array Value)[i]?) ∧ (w'.cell? ⟨g, 3, none⟩ = some (.int .i64 1) ∧ w'.cell? ⟨g, 4, none⟩ = some (.int .i64 0) ∧ w'.cell? ⟨g, 5, none⟩ = some (.int .i64 2))) (first | with_reducible exact ⟨b0.cell, T.q1⟩ | with_reducible exact ⟨b0.drew.cell, T.drew.q1⟩ | with_reducible exact ⟨(b0.alloc _).cell, (T.alloc _).q1⟩ | with_reducible exact ⟨(b0.alloc _).drew.cell, (T.alloc _).drew.q1⟩ | exact ⟨(b0.far3 (by omega) _ _ _).cell, (T.far3 (by omega) _ _ _).q1⟩ | exact ⟨(b0.far3 (by omega) _ _ _).drew.cell, (T.far3 (by omega) _ _ _).drew.q1⟩)
          (first
            | (go_at_call 13; with_reducible refine (G2.out _).mono ?_; have gqT := T.lt; rintro e w1 ⟨rfl, hb⟩; (first | (replace bn := bn.keep hb) | (have bn : Blk w1 _ 33 #[.int .i64 (0), .int .i64 (0), .int .i64 (0)] := (by with_reducible first | exact Blk.keep hb (Blk.new _ _ _) | exact Blk.keep hb (Blk.new _ _ _).drew); have gq0 := b0.lt; have gq1 := b1.lt; have gq := hB.size) | skip); (first | (have cn := bn.cell; have fn := bn.frozen; have ln := bn.lt) | skip); replace hB := (by with_reducible first | exact b_keep hb hB | exact b_keep hb hB.drew | exact b_keep hb (hB.alloc hB.size _) | exact b_keep hb (hB.alloc hB.size _).drew); replace b0 : Blk w1 _ _ _ := (by with_reducible first | exact Blk.keep hb b0 | exact Blk.keep hb b0.drew | exact Blk.keep hb (b0.alloc _) | exact Blk.keep hb (b0.alloc _).drew); replace b1 : Blk w1 _ _ _ := (by with_reducible first | exact Blk.keep hb b1 | exact Blk.keep hb b1.drew | exact Blk.keep hb (b1.alloc _) | exact Blk.keep hb (b1.alloc _).drew); replace l0 := b0.lt; replace c0 := b0.cell; replace f0 := b0.frozen; replace l1 := b1.lt; replace c1 := b1.cell; replace f1 := b1.frozen; replace T := (by with_reducible first | exact Qd.keep hb T | exact Qd.keep hb T.drew | exact Qd.keep hb (T.alloc _) | exact Qd.keep hb (T.alloc _).drew)))
        all_goals
          go_wp2_with fail
          go_meet
          first
            | with_reducible exact ⟨_, rfl, rfl, Blk.new _ _ _, b0.alloc _, b1.alloc _, T.alloc _, hB.alloc hB.size _⟩
            | exact ⟨_, rfl, rfl, bn.set3 _ _ _, b0.far3 (by omega) _ _ _, b1.far3 (by omega) _ _ _, T.far3 (by omega) _ _ _, below_set3 hB gq _ _ _⟩
      case rest =>
        obtain ⟨q2, rfl, rfl, b2, b0, b1, T, hB⟩ := hcut
        clear hB0
        have hB0 := hB
        have c0 := b0.cell
        have f0 := b0.frozen
        have l0 := b0.lt
        have c1 := b1.cell
        have f1 := b1.frozen
        have l1 := b1.lt
        have c2 := b2.cell
        have f2 := b2.frozen
        have l2 := b2.lt
        go_upto_region 11 with fail
        go_cut [11, 12] (fun s t wx => ∃ q : Nat, s = .pointer (some ⟨q, 0, none⟩) ∧ t = .bool true ∧ Blk wx q 33 #[.int .i64 e0, .int .i64 e1, .int .i64 e2] ∧ Blk wx q0 36 #[.int .i64 (p0), .int .i64 (p1), .int .i64 (p2), .int .i64 (p3), .int .i64 (p4), .int .i64 (p5), .int .i64 (p6), .int .i64 (p7), .int .i64 (p8), .int .i64 (p9), .int .i64 (p10), .int .i64 (p11)] ∧ Blk wx q1 33 #[.int .i64 v0, .int .i64 v1, .int .i64 v2] ∧ Blk wx q2 33 #[.int .i64 v0, .int .i64 v1, .int .i64 v2] ∧ Qd wx g ∧ Below w.heap.size w wx)
        case first =>
          go_region_held3 (fun w' => (∀ i, w'.cell? ⟨q0, i, none⟩ = (#[.int .i64 (p0), .int .i64 (p1), .int .i64 (p2), .int .i64 (p3), .int .i64 (p4), .int .i64 (p5), .int .i64 (p6), .int .i64 (p7), .int .i64 (p8), .int .i64 (p9), .int .i64 (p10), .int .i64 (p11)] : Array Value)[i]?) ∧ (w'.cell? ⟨g, 0, none⟩ = some (.int .i64 0) ∧ w'.cell? ⟨g, 1, none⟩ = some (.int .i64 0) ∧ w'.cell? ⟨g, 2, none⟩ = some (.int .i64 2))) (first | with_reducible exact ⟨b0.cell, T.q0⟩ | with_reducible exact ⟨b0.drew.cell, T.drew.q0⟩ | with_reducible exact ⟨(b0.alloc _).cell, (T.alloc _).q0⟩ | with_reducible exact ⟨(b0.alloc _).drew.cell, (T.alloc _).drew.q0⟩ | exact ⟨(b0.far3 (by omega) _ _ _).cell, (T.far3 (by omega) _ _ _).q0⟩ | exact ⟨(b0.far3 (by omega) _ _ _).drew.cell, (T.far3 (by omega) _ _ _).drew.q0⟩)
            (first
              | (go_at_call 13; with_reducible refine (G3.out _).mono ?_; have gqT := T.lt; rintro e w1 ⟨rfl, hb⟩; (first | (replace bn := bn.keep hb) | (have bn : Blk w1 _ 33 #[.int .i64 (0), .int .i64 (0), .int .i64 (0)] := (by with_reducible first | exact Blk.keep hb (Blk.new _ _ _) | exact Blk.keep hb (Blk.new _ _ _).drew); have gq0 := b0.lt; have gq1 := b1.lt; have gq2 := b2.lt; have gq := hB.size) | skip); (first | (have cn := bn.cell; have fn := bn.frozen; have ln := bn.lt) | skip); replace hB := (by with_reducible first | exact b_keep hb hB | exact b_keep hb hB.drew | exact b_keep hb (hB.alloc hB.size _) | exact b_keep hb (hB.alloc hB.size _).drew); replace b0 : Blk w1 _ _ _ := (by with_reducible first | exact Blk.keep hb b0 | exact Blk.keep hb b0.drew | exact Blk.keep hb (b0.alloc _) | exact Blk.keep hb (b0.alloc _).drew); replace b1 : Blk w1 _ _ _ := (by with_reducible first | exact Blk.keep hb b1 | exact Blk.keep hb b1.drew | exact Blk.keep hb (b1.alloc _) | exact Blk.keep hb (b1.alloc _).drew); replace b2 : Blk w1 _ _ _ := (by with_reducible first | exact Blk.keep hb b2 | exact Blk.keep hb b2.drew | exact Blk.keep hb (b2.alloc _) | exact Blk.keep hb (b2.alloc _).drew); replace l0 := b0.lt; replace c0 := b0.cell; replace f0 := b0.frozen; replace l1 := b1.lt; replace c1 := b1.cell; replace f1 := b1.frozen; replace l2 := b2.lt; replace c2 := b2.cell; replace f2 := b2.frozen; replace T := (by with_reducible first | exact Qd.keep hb T | exact Qd.keep hb T.drew | exact Qd.keep hb (T.alloc _) | exact Qd.keep hb (T.alloc _).drew)))
          all_goals
            go_wp2_with fail
            go_meet
            first
              | with_reducible exact ⟨_, rfl, rfl, Blk.new _ _ _, b0.alloc _, b1.alloc _, b2.alloc _, T.alloc _, hB.alloc hB.size _⟩
              | exact ⟨_, rfl, rfl, bn.set3 _ _ _, b0.far3 (by omega) _ _ _, b1.far3 (by omega) _ _ _, b2.far3 (by omega) _ _ _, T.far3 (by omega) _ _ _, below_set3 hB gq _ _ _⟩
        case rest =>
          obtain ⟨q3, rfl, rfl, b3, b0, b1, b2, T, hB⟩ := hcut
          clear hB0
          have hB0 := hB
          have c0 := b0.cell
          have f0 := b0.frozen
          have l0 := b0.lt
          have c1 := b1.cell
          have f1 := b1.frozen
          have l1 := b1.lt
          have c2 := b2.cell
          have f2 := b2.frozen
          have l2 := b2.lt
          have c3 := b3.cell
          have f3 := b3.frozen
          have l3 := b3.lt
          go_upto_region 12 with fail
          go_cut [13, 14] (fun s t wx => ∃ q : Nat, s = .pointer (some ⟨q, 0, none⟩) ∧ t = .bool true ∧ Blk wx q 33 #[.int .i64 e0, .int .i64 e1, .int .i64 e2] ∧ Blk wx q0 36 #[.int .i64 (p0), .int .i64 (p1), .int .i64 (p2), .int .i64 (p3), .int .i64 (p4), .int .i64 (p5), .int .i64 (p6), .int .i64 (p7), .int .i64 (p8), .int .i64 (p9), .int .i64 (p10), .int .i64 (p11)] ∧ Blk wx q1 33 #[.int .i64 v0, .int .i64 v1, .int .i64 v2] ∧ Blk wx q2 33 #[.int .i64 v0, .int .i64 v1, .int .i64 v2] ∧ Blk wx q3 33 #[.int .i64 e0, .int .i64 e1, .int .i64 e2] ∧ Qd wx g ∧ Below w.heap.size w wx)
          case first =>
            go_region_held3 (fun w' => (∀ i, w'.cell? ⟨q0, i, none⟩ = (#[.int .i64 (p0), .int .i64 (p1), .int .i64 (p2), .int .i64 (p3), .int .i64 (p4), .int .i64 (p5), .int .i64 (p6), .int .i64 (p7), .int .i64 (p8), .int .i64 (p9), .int .i64 (p10), .int .i64 (p11)] : Array Value)[i]?) ∧ (w'.cell? ⟨g, 6, none⟩ = some (.int .i64 0) ∧ w'.cell? ⟨g, 7, none⟩ = some (.int .i64 1) ∧ w'.cell? ⟨g, 8, none⟩ = some (.int .i64 2))) (first | with_reducible exact ⟨b0.cell, T.q2⟩ | with_reducible exact ⟨b0.drew.cell, T.drew.q2⟩ | with_reducible exact ⟨(b0.alloc _).cell, (T.alloc _).q2⟩ | with_reducible exact ⟨(b0.alloc _).drew.cell, (T.alloc _).drew.q2⟩ | exact ⟨(b0.far3 (by omega) _ _ _).cell, (T.far3 (by omega) _ _ _).q2⟩ | exact ⟨(b0.far3 (by omega) _ _ _).drew.cell, (T.far3 (by omega) _ _ _).drew.q2⟩)
              (first
                | (go_at_call 13; with_reducible refine (G4.out _).mono ?_; have gqT := T.lt; rintro e w1 ⟨rfl, hb⟩; (first | (replace bn := bn.keep hb) | (have bn : Blk w1 _ 33 #[.int .i64 (0), .int .i64 (0), .int .i64 (0)] := (by with_reducible first | exact Blk.keep hb (Blk.new _ _ _) | exact Blk.keep hb (Blk.new _ _ _).drew); have gq0 := b0.lt; have gq1 := b1.lt; have gq2 := b2.lt; have gq3 := b3.lt; have gq := hB.size) | skip); (first | (have cn := bn.cell; have fn := bn.frozen; have ln := bn.lt) | skip); replace hB := (by with_reducible first | exact b_keep hb hB | exact b_keep hb hB.drew | exact b_keep hb (hB.alloc hB.size _) | exact b_keep hb (hB.alloc hB.size _).drew); replace b0 : Blk w1 _ _ _ := (by with_reducible first | exact Blk.keep hb b0 | exact Blk.keep hb b0.drew | exact Blk.keep hb (b0.alloc _) | exact Blk.keep hb (b0.alloc _).drew); replace b1 : Blk w1 _ _ _ := (by with_reducible first | exact Blk.keep hb b1 | exact Blk.keep hb b1.drew | exact Blk.keep hb (b1.alloc _) | exact Blk.keep hb (b1.alloc _).drew); replace b2 : Blk w1 _ _ _ := (by with_reducible first | exact Blk.keep hb b2 | exact Blk.keep hb b2.drew | exact Blk.keep hb (b2.alloc _) | exact Blk.keep hb (b2.alloc _).drew); replace b3 : Blk w1 _ _ _ := (by with_reducible first | exact Blk.keep hb b3 | exact Blk.keep hb b3.drew | exact Blk.keep hb (b3.alloc _) | exact Blk.keep hb (b3.alloc _).drew); replace l0 := b0.lt; replace c0 := b0.cell; replace f0 := b0.frozen; replace l1 := b1.lt; replace c1 := b1.cell; replace f1 := b1.frozen; replace l2 := b2.lt; replace c2 := b2.cell; replace f2 := b2.frozen; replace l3 := b3.lt; replace c3 := b3.cell; replace f3 := b3.frozen; replace T := (by with_reducible first | exact Qd.keep hb T | exact Qd.keep hb T.drew | exact Qd.keep hb (T.alloc _) | exact Qd.keep hb (T.alloc _).drew)))
            all_goals
              go_wp2_with fail
              go_meet
              first
                | with_reducible exact ⟨_, rfl, rfl, Blk.new _ _ _, b0.alloc _, b1.alloc _, b2.alloc _, b3.alloc _, T.alloc _, hB.alloc hB.size _⟩
                | exact ⟨_, rfl, rfl, bn.set3 _ _ _, b0.far3 (by omega) _ _ _, b1.far3 (by omega) _ _ _, b2.far3 (by omega) _ _ _, b3.far3 (by omega) _ _ _, T.far3 (by omega) _ _ _, below_set3 hB gq _ _ _⟩
          case rest =>
            obtain ⟨q4, rfl, rfl, b4, b0, b1, b2, b3, T, hB⟩ := hcut
            clear hB0
            have c0 := b0.cell
            have f0 := b0.frozen
            have l0 := b0.lt
            have c1 := b1.cell
            have f1 := b1.frozen
            have l1 := b1.lt
            have c2 := b2.cell
            have f2 := b2.frozen
            have l2 := b2.lt
            have c3 := b3.cell
            have f3 := b3.frozen
            have l3 := b3.lt
            have c4 := b4.cell
            have f4 := b4.frozen
            have l4 := b4.lt
            have ev := fun W => eqv_same v0 v1 v2 W
            have ev1 := fun W => eqv_same e0 e1 e2 W
            go_upto_region 13 with fail
            go_region_held3 (fun w' => (∀ i, w'.cell? ⟨q0, i, none⟩ = (#[.int .i64 (p0), .int .i64 (p1), .int .i64 (p2), .int .i64 (p3), .int .i64 (p4), .int .i64 (p5), .int .i64 (p6), .int .i64 (p7), .int .i64 (p8), .int .i64 (p9), .int .i64 (p10), .int .i64 (p11)] : Array Value)[i]?) ∧ (∀ i, w'.cell? ⟨q1, i, none⟩ = (#[.int .i64 (v0), .int .i64 (v1), .int .i64 (v2)] : Array Value)[i]?) ∧ (∀ i, w'.cell? ⟨q2, i, none⟩ = (#[.int .i64 (v0), .int .i64 (v1), .int .i64 (v2)] : Array Value)[i]?) ∧ (∀ i, w'.cell? ⟨q3, i, none⟩ = (#[.int .i64 (e0), .int .i64 (e1), .int .i64 (e2)] : Array Value)[i]?) ∧ (∀ i, w'.cell? ⟨q4, i, none⟩ = (#[.int .i64 (e0), .int .i64 (e1), .int .i64 (e2)] : Array Value)[i]?)) (first | with_reducible exact ⟨b0.cell, b1.cell, b2.cell, b3.cell, b4.cell⟩ | with_reducible exact ⟨b0.drew.cell, b1.drew.cell, b2.drew.cell, b3.drew.cell, b4.drew.cell⟩ | with_reducible exact ⟨(b0.alloc _).cell, (b1.alloc _).cell, (b2.alloc _).cell, (b3.alloc _).cell, (b4.alloc _).cell⟩ | with_reducible exact ⟨(b0.alloc _).drew.cell, (b1.alloc _).drew.cell, (b2.alloc _).drew.cell, (b3.alloc _).drew.cell, (b4.alloc _).drew.cell⟩ | exact ⟨(b0.far3 (by omega) _ _ _).cell, (b1.far3 (by omega) _ _ _).cell, (b2.far3 (by omega) _ _ _).cell, (b3.far3 (by omega) _ _ _).cell, (b4.far3 (by omega) _ _ _).cell⟩ | exact ⟨(b0.far3 (by omega) _ _ _).drew.cell, (b1.far3 (by omega) _ _ _).drew.cell, (b2.far3 (by omega) _ _ _).drew.cell, (b3.far3 (by omega) _ _ _).drew.cell, (b4.far3 (by omega) _ _ _).drew.cell⟩ | go_keep)
              (first
                | (go_at_call 14; with_reducible refine (G5.out _).mono ?_; rintro e w1 ⟨rfl, hb⟩; have hB := (by with_reducible first | exact b_keep hb hB | exact b_keep hb hB.drew); replace b0 : Blk w1 _ _ _ := (by with_reducible first | exact Blk.keep hb b0 | exact Blk.keep hb b0.drew); replace b1 : Blk w1 _ _ _ := (by with_reducible first | exact Blk.keep hb b1 | exact Blk.keep hb b1.drew); replace b2 : Blk w1 _ _ _ := (by with_reducible first | exact Blk.keep hb b2 | exact Blk.keep hb b2.drew); replace b3 : Blk w1 _ _ _ := (by with_reducible first | exact Blk.keep hb b3 | exact Blk.keep hb b3.drew); replace b4 : Blk w1 _ _ _ := (by with_reducible first | exact Blk.keep hb b4 | exact Blk.keep hb b4.drew); replace l0 := b0.lt; replace l1 := b1.lt; replace l2 := b2.lt; replace l3 := b3.lt; replace l4 := b4.lt; replace c0 := b0.cell; replace c1 := b1.cell; replace c2 := b2.cell; replace c3 := b3.cell; replace c4 := b4.cell; replace f0 := b0.frozen; replace f1 := b1.frozen; replace f2 := b2.frozen; replace f3 := b3.frozen; replace f4 := b4.frozen))
            clear c0 c1 c2 c3 c4 f0 f1 f2 f3 f4
            go_wp2
            go_ret
            exact ⟨rfl, hB⟩

set_option maxRecDepth 100000 in
theorem FnSplit_run {H : Type} {enc : TypeId × Value → H} (W : World) (base : Nat) (args : Array Value) (ds : List (DataW H)) (p : List MemPlace)
    (hl : args.toList.length = Try.f4.params.toList.length)
    (hval : ∀ (j : Nat) t v, Try.f4.params[j]? = some t → args[j]? = some v → Value.okWide Try.prog W .any base t v)
    (hA : DataW.TrodAll enc Try.prog W 0 (fun _ => true) true Try.f4.params.toList args.toList ds p) :
    Calls Try.prog 4 args W fun e w' => e = .returned (.bool true) ∧ Below W.heap.size W w' := by
  rw [Try.params4] at hl hval hA
  obtain ⟨v0, d0, rfl, rfl, h0⟩ := trodAll_one hA
  obtain ⟨n, bs, hx, hm⟩ := open_bytes Try.underlying31 Try.underlying5 (by kernel_rfl) (hval 0 31 v0 rfl rfl) h0
  exact lawSplit v0 n bs W hx hm

set_option maxRecDepth 100000 in
theorem FnSplit_lifted (os : Os) (started : os.Started) (H : Type) (enc : TypeId × Value → H) :
    ReturnsInHanded {} Try.checked os 4 .any (Rows.fnSplitSpec.pre6 enc Try.prog Try.f4 Rows.fnSplitRow.domain false) (Rows.fnSplitSpec.post enc Try.prog Try.f4 false true false false) := by
  refine returnsInHanded_of_change (C := Try.checked) own started (by kernel_rfl) Try.func4
    (ChangeSpec.witness6 (enc := enc) (C := Try.checked) false ⟨#[], #[.slice none 0 0], []⟩ 8 (by kernel_rfl) (by kernel_rfl) (by kernel_rfl) (by kernel_rfl)) ?_
  intro W base args ds gs before hval hW _ _
  exact Fr.contract (P := Try.prog) (tb := 4) laidOut (by kernel_rfl) rfl rfl (by kernel_rfl) (fun ds hl => by match ds, hl with | [_], _ => rfl) FnSplit_run W base args ds gs before hval hW

theorem FnSplit_holds : Rows.FnSplitSaid :=
  OpenClaim.holds_of_wide 4 Try.f4 rfl rfl rfl rfl rfl rfl rfl ⟨rfl, rfl, rfl, rfl, rfl⟩ rfl rfl rfl rfl rfl (by kernel_rfl) Try.func4 (by kernel_rfl)
    (of_decide_eq_true (by kernel_rfl)) (by unfold Func.isWrapper; first | (rw [if_pos (by decide +kernel)]; kernel_rfl) | (rw [if_neg (by decide +kernel)]; exact ⟨rfl, rfl⟩))
    (fun os started H enc _ => FnSplit_lifted os started H enc)
#print axioms FnSplit_holds
end Go.Proofs.Ytadjnmldgnaabaa
