/- An argument that is a slice of structs of three ints, taken apart. Any program. -/
import Derived.Test.YtobfccoljijnkaaFrame
import Derived.Test.YtobfccoljijnkaaTri
import Derived.Deep.Slices
import Derived.Deep.Fields
import Derived.ProofKit
import Derived.SizedLaws
namespace Go.Proofs.Ytobfccoljijnkaa
open Go.ChangeShapes Go.WideShapes Go.ChangeAt Go.RowKit Go.Deep

section
variable {H : Type} {enc : TypeId × Value → H} {P : Program}
theorem cell_addr {x : Addr} {i : Nat} {w : World} {b off : Nat} (hx : x = ⟨b, off, none⟩) : w.cell? (x.add i) = w.cell? ⟨b, off + i, none⟩ := by
  subst hx
  unfold Addr.add
  split
  · rename_i h0; rw [h0, Nat.add_zero]
  · rfl
theorem open_tri {W : World} {base : Nat} {t e : TypeId} {f0 f1 f2 : Field} {v : Value} {d : DataW H} {p : List MemPlace} (ht : P.underlying t = some (.slice e)) (he : P.underlying e = some (.struct #[f0, f1, f2]))
    (hone : oneCellFields P #[f0, f1, f2] = true) (hC : P.cellsOf e = 3) (i0 : P.underlying f0.type = some (.int .i64)) (i1 : P.underlying f1.type = some (.int .i64)) (i2 : P.underlying f2.type = some (.int .i64))
    (hv : Value.okWide P W .any base t v) (hd : DataW.Trod enc P W 0 (fun _ => true) true t v d p) : ∃ (n : Nat) (x y z : Nat → Int), TriAt W v n x y z ∧ n ≤ maxLen := by
  obtain ⟨a, len, cap, rfl⟩ := okWide_slice ht hv
  obtain ⟨fuel, hf⟩ := hd
  rcases open_slice ht hf with ⟨hcs, _⟩ | ⟨x, l, c, m, n', D, Pl, hcs, _, hl, hm, hmm, _, hi⟩
  · simp [Value.cells] at hcs
    obtain ⟨rfl, rfl, rfl⟩ := hcs
    exact ⟨0, fun _ => 0, fun _ => 0, fun _ => 0, ⟨none, 0, rfl, Nat.le_refl _, fun h => absurd h (by omega)⟩, by simp⟩
  · simp [Value.cells] at hcs
    obtain ⟨rfl, rfl, rfl⟩ := hcs
    rw [if_pos rfl] at hmm
    subst hmm
    have hat : ∀ i, i < len → ∃ u0 u1 u2 : Int, W.cell? (x.add (i * 3)) = some (.int .i64 u0) ∧ W.cell? (x.add (i * 3 + 1)) = some (.int .i64 u1) ∧ W.cell? (x.add (i * 3 + 2)) = some (.int .i64 u2) := by
      intro i hil
      obtain ⟨cs', hc, ht'⟩ := hi i (by omega)
      rw [hC] at hc
      obtain ⟨ys, n'', _, _, hlen, _, hfs⟩ := DataW.trod_struct he ht'
      obtain ⟨_, hcl, hat⟩ := World.cells?_some hc
      have one : ∀ (j : Nat) (f : Field), (#[f0, f1, f2] : Array Field)[j]? = some f → P.underlying f.type = some (.int .i64) → j < 3 → ∃ u : Int, W.cell? (x.add (i * 3 + j)) = some (.int .i64 u) := by
        intro j f hj hu hj3
        obtain ⟨ho, hk⟩ := hone_of hone j f hj
        have h1 := hfs j f hj
        rw [ho, hk] at h1
        have hjl : j < cs'.length := by omega
        have hone' : (cs'.drop j).take 1 = [cs'[j]'hjl] := by
          rw [List.drop_eq_getElem_cons hjl]
          rfl
        rw [hone'] at h1
        cases hy : ys[j]? with
        | none => rw [hy] at h1; cases hfu : DataW.trod enc P W 0 (fun _ => true) true n'' f.type [cs'[j]'hjl] with
          | none =>
            exfalso
            have : ys.length = 3 := by assumption
            rw [List.getElem?_eq_none_iff] at hy
            omega
          | some y => rw [hfu] at h1; cases h1
        | some y =>
          rw [hy] at h1
          obtain ⟨u, hu1, _, _⟩ := DataW.trod_int hu h1
          refine ⟨u, ?_⟩
          rw [← Go.Deep.add_add, hat j hj3, List.getElem?_eq_getElem hjl]
          simp only [List.cons.injEq, and_true] at hu1
          rw [hu1]
      obtain ⟨u0, h0⟩ := one 0 f0 rfl i0 (by omega)
      obtain ⟨u1, h1⟩ := one 1 f1 rfl i1 (by omega)
      obtain ⟨u2, h2⟩ := one 2 f2 rfl i2 (by omega)
      exact ⟨u0, u1, u2, h0, h1, h2⟩
    refine ⟨len, fun i => Fr.intAt (W.cell? (x.add (i * 3))), fun i => Fr.intAt (W.cell? (x.add (i * 3 + 1))), fun i => Fr.intAt (W.cell? (x.add (i * 3 + 2))), ⟨some x, _, rfl, hl, fun h0 => ?_⟩, by omega⟩
    obtain ⟨b, off, spot⟩ := x
    obtain ⟨_, _, _, hc0, _, _⟩ := hat 0 h0
    have hspot : spot = none := by
      have := World.cell?_spot hc0
      simpa [Addr.add] using this
    subst hspot
    refine ⟨b, off, rfl, ?_, fun i hil => ?_⟩
    · have := World.block_lt_of_cell? W _ hc0
      simpa [Addr.add] using this
    · obtain ⟨u0, u1, u2, h0, h1, h2⟩ := hat i hil
      refine ⟨?_, ?_, ?_⟩
      · dsimp only; rw [← cell_addr (x := ⟨b, off, none⟩) rfl, h0]; rfl
      · dsimp only; rw [Nat.add_assoc, ← cell_addr (x := ⟨b, off, none⟩) rfl, h1]; rfl
      · dsimp only; rw [Nat.add_assoc, ← cell_addr (x := ⟨b, off, none⟩) rfl, h2]; rfl
end
end Go.Proofs.Ytobfccoljijnkaa
