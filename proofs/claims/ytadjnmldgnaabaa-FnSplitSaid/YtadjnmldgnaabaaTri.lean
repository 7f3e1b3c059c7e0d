/- Slices of vectors: how they read in memory; the smallest box around them. -/
import Derived.Test.YtadjnmldgnaabaaBlk
import Derived.Test.YtadjnmldgnaabaaVec5
namespace Go.Proofs.Ytadjnmldgnaabaa
open Go.RowKit

/-- Three ints from cell o of block b on. -/
abbrev Three (w : World) (b o : Nat) (x y z : Int) : Prop :=
  w.cell? ⟨b, o, none⟩ = some (.int .i64 x) ∧ w.cell? ⟨b, o + 1, none⟩ = some (.int .i64 y) ∧ w.cell? ⟨b, o + 2, none⟩ = some (.int .i64 z)
/-- The slice value v reads as n structs of three ints. -/
def TriAt (w : World) (v : Value) (n : Nat) (x y z : Nat → Int) : Prop :=
  ∃ (a : Option Addr) (cap : Nat), v = .slice a n cap ∧ n ≤ cap ∧ (0 < n → ∃ b off, a = some ⟨b, off, none⟩ ∧ b < w.heap.size ∧ ∀ i, i < n → Three w b (off + i * 3) (x i) (y i) (z i))
theorem Three.keep {w w' : World} {B b o : Nat} {x y z : Int} (h : Three w b o x y z) (hb : Below B w w') (hlt : b < B) : Three w' b o x y z :=
  ⟨(hb.cell (p := ⟨b, o, none⟩) hlt).trans h.1, (hb.cell (p := ⟨b, o + 1, none⟩) hlt).trans h.2.1, (hb.cell (p := ⟨b, o + 2, none⟩) hlt).trans h.2.2⟩
theorem TriAt.keep {w w' : World} {v : Value} {n : Nat} {x y z : Nat → Int} (h : TriAt w v n x y z) (hb : Below w.heap.size w w') : TriAt w' v n x y z := by
  obtain ⟨a, cap, rfl, hcap, hc⟩ := h
  refine ⟨a, cap, rfl, hcap, fun h0 => ?_⟩
  obtain ⟨b, off, rfl, hlt, hcell⟩ := hc h0
  exact ⟨b, off, rfl, Nat.lt_of_lt_of_le hlt hb.size, fun i hi => (hcell i hi).keep hb hlt⟩
/-- The same, in a block that is there. -/
def Thr (w : World) (b o : Nat) (x y z : Int) : Prop := b < w.heap.size ∧ Three w b o x y z
section
variable {w w1 W : World} {b o : Nat} {x y z : Int}
theorem Thr.cells (h : Thr w b o x y z) : w.cell? ⟨b, o, none⟩ = some (.int .i64 x) ∧ w.cell? ⟨b, o + 1, none⟩ = some (.int .i64 y) ∧ w.cell? ⟨b, o + 2, none⟩ = some (.int .i64 z) := h.2
theorem Thr.keep (hb : Below W.heap.size W w1) (h : Thr W b o x y z) : Thr w1 b o x y z := ⟨Nat.lt_of_lt_of_le h.1 hb.size, h.2.keep hb h.1⟩
theorem Thr.drew (h : Thr w b o x y z) : Thr w.drew b o x y z := h
theorem Thr.alloc (h : Thr w b o x y z) (ob : Obj) : Thr (w.alloc ob) b o x y z := h.keep (below1 w ob)
theorem Thr.set6 (h : Thr w b o x y z) {g : Nat} (hg : b < g) (u0 u1 u2 u3 u4 u5 : Value) :
    Thr ((((((w.setCell ⟨g, 0, none⟩ u0).setCell ⟨g, 1, none⟩ u1).setCell ⟨g, 2, none⟩ u2).setCell ⟨g, 3, none⟩ u3).setCell ⟨g, 4, none⟩ u4).setCell ⟨g, 5, none⟩ u5) b o x y z := by
  have hB := ((((((Below.refl (b + 1) w).setCell (p := ⟨g, 0, none⟩) hg u0).setCell (p := ⟨g, 1, none⟩) hg u1).setCell (p := ⟨g, 2, none⟩) hg u2).setCell (p := ⟨g, 3, none⟩) hg u3).setCell (p := ⟨g, 4, none⟩) hg u4).setCell (p := ⟨g, 5, none⟩) hg u5
  exact ⟨Nat.lt_of_lt_of_le h.1 hB.size, h.2.keep hB (by omega)⟩
end
theorem cl_cl (n : Int) : cl (cl n) = cl n := cl_id (cl_bd n).1 (cl_bd n).2
/-- The least, the greatest of the first k + 1. -/
def loK (x : Nat → Int) : Nat → Int
  | 0 => cl (x 0)
  | k + 1 => mnZ (loK x k) (cl (x k))
def hiK (x : Nat → Int) : Nat → Int
  | 0 => cl (x 0)
  | k + 1 => mxZ (hiK x k) (cl (x k))
theorem loK_bd (x : Nat → Int) : ∀ k, -1000000 ≤ loK x k ∧ loK x k ≤ 1000000
  | 0 => cl_bd _
  | k + 1 => by
    have h1 := loK_bd x k
    have h2 := cl_bd (x k)
    unfold loK mnZ
    omega
theorem hiK_bd (x : Nat → Int) : ∀ k, -1000000 ≤ hiK x k ∧ hiK x k ≤ 1000000
  | 0 => cl_bd _
  | k + 1 => by
    have h1 := hiK_bd x k
    have h2 := cl_bd (x k)
    unfold hiK mxZ
    omega
theorem loK_succ (x : Nat → Int) (k : Nat) : mnZ (cl (loK x k)) (cl (x k)) = loK x (k + 1) := by rw [cl_id (loK_bd x k).1 (loK_bd x k).2]; rfl
theorem hiK_succ (x : Nat → Int) (k : Nat) : mxZ (cl (hiK x k)) (cl (x k)) = hiK x (k + 1) := by rw [cl_id (hiK_bd x k).1 (hiK_bd x k).2]; rfl
theorem loK_one (x : Nat → Int) : loK x 1 = cl (x 0) := by show mnZ (cl (x 0)) (cl (x 0)) = _; unfold mnZ; omega
theorem hiK_one (x : Nat → Int) : hiK x 1 = cl (x 0) := by show mxZ (cl (x 0)) (cl (x 0)) = _; unfold mxZ; omega
/-- The box around the first n; nothing but zeros where there is none. -/
def bpL (x : Nat → Int) (n : Nat) : Int := if n = 0 then 0 else loK x n
def bpH (x : Nat → Int) (n : Nat) : Int := if n = 0 then 0 else hiK x n
theorem bpL_pos (x : Nat → Int) {n : Nat} (h : 0 < n) : bpL x n = loK x n := by unfold bpL; rw [if_neg (by omega)]
theorem bpH_pos (x : Nat → Int) {n : Nat} (h : 0 < n) : bpH x n = hiK x n := by unfold bpH; rw [if_neg (by omega)]
theorem bpL_zero (x : Nat → Int) : bpL x 0 = 0 := rfl
theorem bpH_zero (x : Nat → Int) : bpH x 0 = 0 := rfl
theorem Blk.lo6 {w : World} {g : Nat} {t : TypeId} {p q r p' q' r' : Value} (h : Blk w g t #[p, q, r, p', q', r']) (a b c : Value) :
    Blk (((w.setCell ⟨g, 0, none⟩ a).setCell ⟨g, 1, none⟩ b).setCell ⟨g, 2, none⟩ c) g t #[a, b, c, p', q', r'] := ((h.set_ 0 a).set_ 1 b).set_ 2 c
theorem Blk.hi6 {w : World} {g : Nat} {t : TypeId} {p q r p' q' r' : Value} (h : Blk w g t #[p, q, r, p', q', r']) (a b c : Value) :
    Blk (((w.setCell ⟨g, 3, none⟩ a).setCell ⟨g, 4, none⟩ b).setCell ⟨g, 5, none⟩ c) g t #[p, q, r, a, b, c] := ((h.set_ 3 a).set_ 4 b).set_ 5 c
theorem Blk.farHi {w : World} {g : Nat} {t : TypeId} {cs : Array Value} (h : Blk w g t cs) {g' : Nat} (hp : g ≠ g') (a b c : Value) :
    Blk (((w.setCell ⟨g', 3, none⟩ a).setCell ⟨g', 4, none⟩ b).setCell ⟨g', 5, none⟩ c) g t cs :=
  ((h.far (p := ⟨g', 3, none⟩) hp a).far (p := ⟨g', 4, none⟩) hp b).far (p := ⟨g', 5, none⟩) hp c
theorem below_setHi {w : World} {B : Nat} {w0 : World} (h : Below B w0 w) {g' : Nat} (hp : B ≤ g') (a b c : Value) :
    Below B w0 (((w.setCell ⟨g', 3, none⟩ a).setCell ⟨g', 4, none⟩ b).setCell ⟨g', 5, none⟩ c) :=
  ((h.setCell (p := ⟨g', 3, none⟩) hp a).setCell (p := ⟨g', 4, none⟩) hp b).setCell (p := ⟨g', 5, none⟩) hp c
end Go.Proofs.Ytadjnmldgnaabaa
