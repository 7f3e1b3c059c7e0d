/- ParseTransform, of the program and of the reference. -/
import Derived.Test.YtnibknaemgpjdaaDoorTrfB
import Derived.Test.YtnibknaemgpjdaaDoorParP
import Derived.Test.YtnibknaemgpjdaaDoorSplS
import Derived.Deep.Cut
import Derived.Laws.Cover3
import Derived.Test.YtnibknaemgpjdaaDoorReg
namespace Go.Proofs.YtnibknaemgpjdaaDoor
open Go Go.RowKit Go.Sort

def TrRes (s : ByteArray) (w : World) (e : Ending) (w' : World) : Prop := e = .returned (trV s.data.toList) ∧ Below w.heap.size w w'
theorem tr_mk {s : ByteArray} {w w' : World} {v : Value} (h : trV s.data.toList = v) (hb : Below w.heap.size w w') : TrRes s w (.returned v) w' := ⟨by rw [h], hb⟩
theorem info_tr : (Tryd.prog.info? 33).map (·.size) = some 12 := by kernel_rfl
/-- The library's own number is some number. -/
def MaxL (w : World) : Prop := ∃ m : Int, w.cell? ⟨0, 0, none⟩ = some (.int .i64 m) ∧ 0 < w.heap.size
theorem MaxL.keep {w w' : World} (h : MaxL w) (hb : Below w.heap.size w w') : MaxL w' := by
  obtain ⟨m, h1, h2⟩ := h
  exact ⟨m, (hb.cell (p := ⟨_, 0, none⟩) h2).trans h1, Nat.lt_of_lt_of_le h2 hb.size⟩
theorem cut_len (l : List UInt8) : (Lib.cut l [59]).1.length ≤ l.length ∧ (Lib.cut l [59]).2.1.length ≤ l.length := by
  unfold Lib.cut
  split
  · simp only [List.length_take, List.length_drop]; omega
  · simp
def CutRes (s : ByteArray) (w : World) (e : Ending) (w' : World) : Prop :=
  ∃ (a b : ByteArray) (t : Bool), e = .returned (.tuple #[.string a, .string b, .bool t]) ∧ a.data.toList = (Lib.cut s.data.toList [59]).1 ∧ b.data.toList = (Lib.cut s.data.toList [59]).2.1 ∧ a.size ≤ s.size ∧ b.size ≤ s.size ∧ Below w.heap.size w w'
theorem cutI (s : ByteArray) (hs : s.size ≤ 1048576) (w : World) (hM : MaxL w) : Calls Tryd.prog 47 #[.string s, .string ⟨#[59]⟩] w (CutRes s w) := by
  obtain ⟨m, hm, _⟩ := hM
  refine (Tryd.strings_Cut s ⟨#[59]⟩ m w (by omega) hm).mono ?_
  rintro e w' ⟨rfl, n, rfl⟩
  obtain ⟨h1, h2⟩ := cut_len s.data.toList
  have hl : s.data.toList.length = s.size := by simp
  refine ⟨_, _, _, rfl, data_mk _, data_mk _, ?_, ?_, below_drewN (Below.refl _ _) n⟩
  · show (Lib.cut s.data.toList [59]).1.toArray.size ≤ s.size
    simp only [List.size_toArray]; omega
  · show (Lib.cut s.data.toList [59]).2.1.toArray.size ≤ s.size
    simp only [List.size_toArray]; omega
/-- Nine ints at the head of a block that is there. -/
def Nine (w : World) (g : Nat) (ms : List Int) : Prop := g < w.heap.size ∧ w.cell? ⟨g, 0, none⟩ = some (.int .i64 (mAt ms 0)) ∧ w.cell? ⟨g, 1, none⟩ = some (.int .i64 (mAt ms 1)) ∧ w.cell? ⟨g, 2, none⟩ = some (.int .i64 (mAt ms 2)) ∧ w.cell? ⟨g, 3, none⟩ = some (.int .i64 (mAt ms 3)) ∧ w.cell? ⟨g, 4, none⟩ = some (.int .i64 (mAt ms 4)) ∧ w.cell? ⟨g, 5, none⟩ = some (.int .i64 (mAt ms 5)) ∧ w.cell? ⟨g, 6, none⟩ = some (.int .i64 (mAt ms 6)) ∧ w.cell? ⟨g, 7, none⟩ = some (.int .i64 (mAt ms 7)) ∧ w.cell? ⟨g, 8, none⟩ = some (.int .i64 (mAt ms 8))
section
variable {w w1 W : World} {g : Nat} {ms : List Int}
theorem Nine.cells (h : Nine w g ms) : w.cell? ⟨g, 0, none⟩ = some (.int .i64 (mAt ms 0)) ∧ w.cell? ⟨g, 1, none⟩ = some (.int .i64 (mAt ms 1)) ∧ w.cell? ⟨g, 2, none⟩ = some (.int .i64 (mAt ms 2)) ∧ w.cell? ⟨g, 3, none⟩ = some (.int .i64 (mAt ms 3)) ∧ w.cell? ⟨g, 4, none⟩ = some (.int .i64 (mAt ms 4)) ∧ w.cell? ⟨g, 5, none⟩ = some (.int .i64 (mAt ms 5)) ∧ w.cell? ⟨g, 6, none⟩ = some (.int .i64 (mAt ms 6)) ∧ w.cell? ⟨g, 7, none⟩ = some (.int .i64 (mAt ms 7)) ∧ w.cell? ⟨g, 8, none⟩ = some (.int .i64 (mAt ms 8)) := h.2
theorem Nine.drew (h : Nine w g ms) : Nine w.drew g ms := h
theorem Nine.keep (h : Nine W g ms) (hb : Below W.heap.size W w1) : Nine w1 g ms := by
  have k : ∀ {i : Nat} {u : Value}, W.cell? ⟨g, i, none⟩ = some u → w1.cell? ⟨g, i, none⟩ = some u := fun {i u} e => (hb.cell (p := ⟨g, i, none⟩) h.1).trans e
  exact ⟨Nat.lt_of_lt_of_le h.1 hb.size, k h.2.1, k h.2.2.1, k h.2.2.2.1, k h.2.2.2.2.1, k h.2.2.2.2.2.1, k h.2.2.2.2.2.2.1, k h.2.2.2.2.2.2.2.1, k h.2.2.2.2.2.2.2.2.1, k h.2.2.2.2.2.2.2.2.2⟩
theorem Nine.alloc (h : Nine w g ms) (o : Obj) : Nine (w.alloc o) g ms := h.keep (below1 w o)
end
set_option maxRecDepth 100000 in
theorem trI_end {s : ByteArray} {w W : World} {a : Act} {cs : Array Value} {b : Bool} (hb : Blk W w.heap.size 33 cs) (hs : cs.size = 12) (hp : a.tmps.getD 2 undef = .pointer (some ⟨w.heap.size, 0, none⟩))
    (hq : a.tmps.getD 3 undef = .bool b) (hd : a.defers = []) (hv : trV s.data.toList = .tuple #[.agg cs, .bool b]) (hB : Below w.heap.size w W) : bodyPost Tryd.prog Tryd.f12 (TrRes s w) .ret a W :=
  bodyPost_ret (by rw [results_row_tmp rfl a.tmps W w.heap.size 33 cs (0, 0) _ hp hb rfl rfl (by rw [hs]; exact info_tr), hq]) hd (tr_mk hv hB)
def OkRes (ms : List Int) (v : V3) (w : World) (e : Ending) (w' : World) : Prop := e = .returned (.bool (vbR ms v)) ∧ Below w.heap.size w w'
theorem okR (ms : List Int) (v : V3) (w : World) : Calls Tryd.prog 48 #[.agg (cellsT ms v)] w (OkRes ms v w) := isValidTransformI _ _ _ _ _ _ _ _ _ _ _ _ w
set_option maxHeartbeats 8000000 in
set_option maxRecDepth 100000 in
theorem parTrI (s : ByteArray) (hs : s.size ≤ 1048576) (w : World) (hT : Tab w) (hE : Errs w) (hM : MaxL w) : Calls Tryd.prog 12 #[.string s] w (TrRes s w) := by
  have hB0 := below1 w (.cells (cellsT [] (0, 0, 0)) 33)
  have b00 := Blk.new w 33 (cellsT [] (0, 0, 0))
  have HT := Lib.hid hT
  have HE := Lib.hid hE
  have HM := Lib.hid hM
  clear hT hE hM
  go_enter Tryd.func12, Tryd.ntmps12
  rw [cellsT_nil] at hB0 b00
  go_wp2_with fail
  generalize w.alloc (.cells #[.int .i64 (0), .int .i64 (0), .int .i64 (0), .int .i64 (0), .int .i64 (0), .int .i64 (0), .int .i64 (0), .int .i64 (0), .int .i64 (0), .int .i64 (0), .int .i64 (0), .int .i64 (0)] 33) = W0 at hB0 b00 ⊢
  refine (cutI s hs W0 (HM.out.keep hB0)).mono ?_
  rintro e w1 ⟨a, b, t, rfl, ha, hb', hsa, hsb, hb⟩
  have b0 := Blk.keep hb b00
  have hB := b_keep hb hB0
  have HA : Hid (intsOf a.data.toList = none → trOf s.data.toList = none) := Lib.hid (fun h => trOf_ints (by rw [← ha]; exact h))
  have HV : Hid (vecOf b.data.toList = none → trOf s.data.toList = none) := Lib.hid (fun h => trOf_vec (by rw [← hb']; exact h))
  have HAV : Hid (∀ ms v, intsOf a.data.toList = some ms → vecOf b.data.toList = some v → trOf s.data.toList = if ms.length = 9 then (if vbR ms v = true then some (ms, v) else none) else none) := Lib.hid (fun ms v h1 h2 => trOf_both (by rw [← ha]; exact h1) (by rw [← hb']; exact h2))
  clear hb ha hb' hB0 b00 HM
  have HP := Lib.hid (parIntsI a (by omega) w1 (HT.out.keep hB) (HE.out.keep hB))
  unfold ParRes at HP
  go_wp2_with fail
  refine HP.out.mono ?_
  rintro e w2 ⟨u, rfl, hown, hb⟩
  replace b0 : Blk w2 _ _ _ := Blk.keep hb b0
  have hsz2 := hb.size
  replace hB := b_keep hb hB
  clear hb HP
  have HP := Lib.hid (parVecI b (by omega) w2 (HT.out.keep hB) (HE.out.keep hB))
  unfold VecPRes at HP
  rw [vecV_vz] at HP
  have HO := Lib.hid hown
  clear hown HT HE hsa hsb
  go_wp2_with fail
  refine HP.out.mono ?_
  rintro e w3 ⟨rfl, hb⟩
  replace b0 : Blk w3 _ _ _ := Blk.keep hb b0
  have hown := HO.out.keep hb
  replace hB := b_keep hb hB
  clear hb HP HO
  obtain ⟨v, hv⟩ : ∃ v, vz b.data.toList = v := ⟨_, rfl⟩
  rw [hv]
  have HZ := Lib.hid hv
  clear hv
  have hsz3 : w.heap.size < w3.heap.size := b0.lt
  have c0 := b0.cell
  have f0 := b0.frozen
  have l0 := b0.lt
  cases hi : intsOf a.data.toList with
  | none =>
    have HN := Lib.hid (trV_none (HA.out hi))
    rw [cellsT_nil] at HN
    rw [hi] at hown
    obtain ⟨a', cap, rfl, _, _⟩ := hown
    clear hi
    simp only [Option.isSome_none, Option.getD_none, List.length_nil]
    go_wp2
    exact trI_end ((blk_row12 b0 rfl _ _ _ _ _ _ _ _ _ _ _ _).alloc _) rfl rfl rfl rfl HN.out ((below_row12 hB (Nat.le_refl _) _ _ _ _ _ _ _ _ _ _ _ _).alloc (by simp [World.setCell]; omega) _)
  | some ms =>
    rw [hi, Option.getD_some] at hown
    cases hn : vecOf b.data.toList with
    | none =>
      have HN := Lib.hid (trV_none (HV.out hn))
      rw [cellsT_nil] at HN
      obtain ⟨a', cap, rfl, _, _⟩ := hown
      clear hi hn
      simp only [Option.isSome_none, Option.isSome_some]
      go_wp2
      exact trI_end ((blk_row12 b0 rfl _ _ _ _ _ _ _ _ _ _ _ _).alloc _) rfl rfl rfl rfl HN.out ((below_row12 hB (Nat.le_refl _) _ _ _ _ _ _ _ _ _ _ _ _).alloc (by simp [World.setCell]; omega) _)
    | some v' =>
      have hvv : v' = v := by have := HZ.out; unfold vz at this; rw [hn] at this; exact this
      subst hvv
      have hO := HAV.out ms v' hi hn
      obtain ⟨a', cap, rfl, _, hc⟩ := hown
      clear hi hn
      by_cases hl : ms.length = 9
      · rw [if_pos hl] at hO
        obtain ⟨g, rfl, hBg, hlg, hcell⟩ := hc (by omega)
        have hN : Nine w3 g ms := ⟨hlg, (hcell 0 (by omega)).1, (hcell 1 (by omega)).1, (hcell 2 (by omega)).1, (hcell 3 (by omega)).1, (hcell 4 (by omega)).1, (hcell 5 (by omega)).1, (hcell 6 (by omega)).1, (hcell 7 (by omega)).1, (hcell 8 (by omega)).1⟩
        have HOO := Lib.hid hO
        clear hcell hc hO
        simp only [Option.isSome_some]
        rw [hl]
        have hAt := fun w => run_arrayAt (P := Tryd.prog) (w := w) 31 3 9 (some ⟨g, 0, none⟩) 9 cap Tryd.underlying31 (Nat.le_refl 9)
        have b1 := Blk.new w3 23 #[.int .i64 v'.1, .int .i64 v'.2.1, .int .i64 v'.2.2]
        replace b0 := b0.alloc (.cells #[.int .i64 v'.1, .int .i64 v'.2.1, .int .i64 v'.2.2] 23)
        replace hB := hB.alloc hB.size (.cells #[.int .i64 v'.1, .int .i64 v'.2.1, .int .i64 v'.2.2] 23)
        replace hN := hN.alloc (.cells #[.int .i64 v'.1, .int .i64 v'.2.1, .int .i64 v'.2.2] 23)
        clear hlg hBg
        go_wp2_with fail
        obtain ⟨q, hq⟩ : ∃ q, w3.heap.size = q := ⟨_, rfl⟩
        rw [hq] at b1 hsz3 ⊢
        clear hq
        generalize w3.alloc (.cells #[.int .i64 v'.1, .int .i64 v'.2.1, .int .i64 v'.2.2] 23) = W3 at b0 b1 hB hN ⊢
        refine wp_region_tail (S := fun w' => (w'.cell? ⟨g, 0, none⟩ = some (.int .i64 (mAt ms 0)) ∧ w'.cell? ⟨g, 1, none⟩ = some (.int .i64 (mAt ms 1)) ∧ w'.cell? ⟨g, 2, none⟩ = some (.int .i64 (mAt ms 2)) ∧ w'.cell? ⟨g, 3, none⟩ = some (.int .i64 (mAt ms 3)) ∧ w'.cell? ⟨g, 4, none⟩ = some (.int .i64 (mAt ms 4)) ∧ w'.cell? ⟨g, 5, none⟩ = some (.int .i64 (mAt ms 5)) ∧ w'.cell? ⟨g, 6, none⟩ = some (.int .i64 (mAt ms 6)) ∧ w'.cell? ⟨g, 7, none⟩ = some (.int .i64 (mAt ms 7)) ∧ w'.cell? ⟨g, 8, none⟩ = some (.int .i64 (mAt ms 8))) ∧ (∀ i, w'.cell? ⟨q, i, none⟩ = (#[.int .i64 v'.1, .int .i64 v'.2.1, .int .i64 v'.2.2] : Array Value)[i]?)) 6 (by kernel_rfl) (by kernel_rfl) ⟨hN.drew.cells, b1.drew.cell⟩ (fun hHeld => ?_)
        refine wpAnyH_take (i := 0) (v := ?v0) rfl (by kernel_rfl) (by kernel_rfl) (by kernel_rfl) (fun _ _ _ h => h) (Or.inl ⟨by rfl, ?y0⟩) (by assumption) ?r0
        case y0 => intro W hSw; (try dsimp only at hSw); go_simp; try with_reducible rfl
        try simp only [Act.put]
        try simp only [List.setIfInBounds_toArray]
        try simp only [List.set_cons_succ]
        try simp only [List.set_cons_zero]
        refine wpAnyH_take (i := 1) (v := ?v1) rfl (by kernel_rfl) (by kernel_rfl) (by kernel_rfl) (fun _ _ _ h => h) (Or.inl ⟨by rfl, ?y1⟩) (by assumption) ?r1
        case y1 => intro W hSw; (try dsimp only at hSw); go_simp; try with_reducible rfl
        try simp only [Act.put]
        try simp only [List.setIfInBounds_toArray]
        try simp only [List.set_cons_succ]
        try simp only [List.set_cons_zero]
        refine wpAnyH_take (i := 2) (v := ?v2) rfl (by kernel_rfl) (by kernel_rfl) (by kernel_rfl) (fun _ _ _ h => h) (Or.inl ⟨by rfl, ?y2⟩) (by assumption) ?r2
        case y2 => intro W hSw; (try dsimp only at hSw); go_simp; try with_reducible rfl
        try simp only [Act.put]
        try simp only [List.setIfInBounds_toArray]
        try simp only [List.set_cons_succ]
        try simp only [List.set_cons_zero]
        refine wpAnyH_take (i := 3) (v := ?v3) rfl (by kernel_rfl) (by kernel_rfl) (by kernel_rfl) (fun _ _ _ h => h) (Or.inl ⟨by rfl, ?y3⟩) (by assumption) ?r3
        case y3 => intro W hSw; (try dsimp only at hSw); go_simp; try with_reducible rfl
        try simp only [Act.put]
        try simp only [List.setIfInBounds_toArray]
        try simp only [List.set_cons_succ]
        try simp only [List.set_cons_zero]
        refine wpAnyH_take (i := 4) (v := ?v4) rfl (by kernel_rfl) (by kernel_rfl) (by kernel_rfl) (fun _ _ _ h => h) (Or.inl ⟨by rfl, ?y4⟩) (by assumption) ?r4
        case y4 => intro W hSw; (try dsimp only at hSw); go_simp; try with_reducible rfl
        try simp only [Act.put]
        try simp only [List.setIfInBounds_toArray]
        try simp only [List.set_cons_succ]
        try simp only [List.set_cons_zero]
        refine wpAnyH_ready (rs := [5]) (by kernel_rfl) (by simp) ?_
        refine AllReadyH.cons rfl (fun K hK => ?_) AllReadyH.nil
        go_simp
        refine hK.out _ _ ⟨(hN.drew.alloc _).cells, (b1.drew.alloc _).cell⟩ (fun hHeld => ?_)
        clear hK K
        try simp only [Act.put]
        try simp only [List.setIfInBounds_toArray]
        try simp only [List.set_cons_succ]
        try simp only [List.set_cons_zero]
        refine wpAnyH_done (by kernel_rfl) ?_ _
        simp only [withNormal, List.drop_succ_cons, List.drop_zero]
        have hR := Lib.hid (fun W => okR ms v' W)
        unfold OkRes at hR
        have b2 := (Blk.new W3 33 (cellsT ms v')).drew
        have b00 := (b0.alloc (.cells (cellsT ms v') 33)).drew
        have hBB := (hB.alloc hB.size (.cells (cellsT ms v') 33)).drew
        have hq2 : w.heap.size < W3.heap.size := b0.lt
        clear b0 b1 hB hN hHeld c0 f0 l0
        unfold cellsT at hR b2 b00 hBB
        go_wp2_with fail
        obtain ⟨q2, hq⟩ : ∃ q2, W3.heap.size = q2 := ⟨_, rfl⟩
        rw [hq] at b2 hq2 ⊢
        clear hq
        generalize (World.alloc W3 _).drew = W4 at b2 b00 hBB ⊢
        refine (hR.out _).mono ?_
        rintro e w5 ⟨rfl, hb⟩
        replace b2 : Blk w5 _ _ _ := Blk.keep hb b2
        replace b00 : Blk w5 _ _ _ := Blk.keep hb b00
        replace hBB := b_keep hb hBB
        have c0 := b00.cell
        have f0 := b00.frozen
        have l0 := b00.lt
        have c2 := b2.cell
        have f2 := b2.frozen
        have l2 := b2.lt
        clear hb hR
        cases hvb : vbR ms v' with
        | false =>
          have hO := HOO.out
          rw [hvb, if_neg (by simp)] at hO
          have HN := Lib.hid (trV_none hO)
          rw [cellsT_nil] at HN
          clear hO HOO hvb
          go_wp2
          exact trI_end (blk_row12 b00 rfl _ _ _ _ _ _ _ _ _ _ _ _) rfl rfl rfl rfl HN.out (below_row12 hBB (Nat.le_refl _) _ _ _ _ _ _ _ _ _ _ _ _)
        | true =>
          have hO := HOO.out
          rw [hvb, if_pos rfl] at hO
          have HN := Lib.hid (trV_some hO)
          unfold cellsT at HN
          clear hO HOO hvb
          go_wp2
          exact trI_end (blk_row12 b00 rfl _ _ _ _ _ _ _ _ _ _ _ _) rfl rfl rfl rfl HN.out (below_row12 hBB (Nat.le_refl _) _ _ _ _ _ _ _ _ _ _ _ _)
      · rw [if_neg hl] at hO
        have HN := Lib.hid (trV_none hO)
        rw [cellsT_nil] at HN
        have hl2 : ((ms.length : Int) != 9) = true := by simp only [bne_iff_ne, ne_eq]; omega
        clear hl hO hc
        simp only [Option.isSome_some]
        go_wp2
        exact trI_end ((blk_row12 b0 rfl _ _ _ _ _ _ _ _ _ _ _ _).alloc _) rfl rfl rfl rfl HN.out ((below_row12 hB (Nat.le_refl _) _ _ _ _ _ _ _ _ _ _ _ _).alloc (by simp [World.setCell]; omega) _)
end Go.Proofs.YtnibknaemgpjdaaDoor
