/- The frame of a law's proof: from a walk that returns true and leaves what was there as it was, to the row's contract. Any program. -/
import Derived.WalkKit
import Derived.ProofKit
import Derived.OpenShut
import Derived.Carry
namespace Go.Proofs.Ytadjnmldgnaabaa.Fr
open Go Go.ChangeShapes Go.WideShapes Go.ChangeAt Go.RowKit

section
variable {H : Type} {enc : TypeId × Value → H} {P : Program}

/-- What was read before the call reads the same behind it, if nothing below the old end of the heap has turned. -/
theorem trodAll_carry (hl : laidOutB P = true) {W W' : World} (hb : Below W.heap.size W W') :
    ∀ {ts : List TypeId} {vs : List Value} {ds : List (DataW H)} {p : List MemPlace}, (∀ t ∈ ts, P.readableRec t = true ∧ t < P.types.size) →
      DataW.TrodAll enc P W 0 (fun _ => true) true ts vs ds p → DataW.TrodAll enc P W' 0 (fun b => decide (b < W.heap.size)) true ts vs ds p
  | [], _, _, _, _, h => by
    obtain ⟨rfl, rfl, rfl⟩ := trodAll_nil h
    exact trodAll_mk0
  | t :: ts, _, _, _, hT, h => by
    obtain ⟨v, vs1, d, ds1, a, b, rfl, rfl, rfl, h1, h2⟩ := trodAll_cons h
    have hlt : ∀ x ∈ a, x.block < W.heap.size := by
      obtain ⟨m, hm⟩ := h1
      exact DataW.trod_lt m _ _ _ hm
    have ht := hT t (List.mem_cons.2 (Or.inl rfl))
    exact trodAll_cons_mk (Below.trod hl ht.1 ht.2 h1 hb hlt) (trodAll_carry hl hb (fun t' ht' => hT t' (List.mem_cons.2 (Or.inr ht'))) h2)

theorem trodAll_length {w : World} {base : Nat} {spare : Nat → Bool} {held : Bool} :
    ∀ {ts : List TypeId} {vs : List Value} {ds : List (DataW H)} {p : List MemPlace}, DataW.TrodAll enc P w base spare held ts vs ds p → vs.length = ts.length ∧ ds.length = ts.length
  | [], _, _, _, h => by
    obtain ⟨rfl, rfl, rfl⟩ := trodAll_nil h
    exact ⟨rfl, rfl⟩
  | t :: ts, _, _, _, h => by
    obtain ⟨v, vs1, d, ds1, a, b, rfl, rfl, rfl, _, h2⟩ := trodAll_cons h
    have := trodAll_length h2
    exact ⟨by simp [this.1], by simp [this.2]⟩

theorem contract {fn : Func} {s : ChangeSpec} {k tb : Nat} (hl : laidOutB P = true) (hb : P.underlying tb = some .bool) (hres : fn.resultTypes = #[tb]) (hvars : s.vars = [])
    (hT : fn.params.toList.all (fun t => P.readableRec t && decide (t < P.types.size)) = true)
    (hspec : ∀ ds : List (DataW H), ds.length = fn.params.toList.length → s.fn H (ds ++ []) = { results := [.lit (.bool true)], args := ds })
    (hwalk : ∀ (W : World) (base : Nat) (args : Array Value) (ds : List (DataW H)) (p : List MemPlace), args.toList.length = fn.params.toList.length →
      (∀ (j : Nat) t v, fn.params[j]? = some t → args[j]? = some v → Value.okWide P W .any base t v) →
      DataW.TrodAll enc P W 0 (fun _ => true) true fn.params.toList args.toList ds p → Calls P k args W fun e w' => e = .returned (.bool true) ∧ Below W.heap.size W w')
    (W : World) (base : Nat) (args : Array Value) (ds gs : List (DataW H)) (before : List MemPlace)
    (hval : ∀ (j : Nat) t v, fn.params[j]? = some t → args[j]? = some v → Value.okWide P W .any base t v)
    (hW : DataW.Whole enc P fn.params.toList s.vars false W args.toList ds gs before) :
    Calls P k args W fun e W' => ∃ v, e = .returned v ∧ s.post enc P fn false true false false W args v W' := by
  have hW' := hW
  obtain ⟨p, q, hA, hV, rfl, hfz, hnd⟩ := hW
  rw [hvars] at hV
  obtain ⟨rfl, rfl⟩ := trodVars_none hV
  have hlen := trodAll_length hA
  have hT' : ∀ t ∈ fn.params.toList, P.readableRec t = true ∧ t < P.types.size := fun t ht => by
    have := List.all_eq_true.1 hT t ht
    simpa using this
  refine (hwalk W base args ds p hlen.1 hval hA).mono fun e W' ⟨he, bel⟩ => ?_
  subst he
  have hs := hspec ds hlen.2
  refine ⟨_, rfl, ds, [], _, [], p, [], hW', ?_, ?_, ?_, bel.frame _, fun h => by cases h⟩
  · rw [hs, hres]
    exact trodAll_mk1 (shut_bool hb _)
  · rw [hs]
    exact trodAll_carry hl bel hT' hA
  · rw [hs, hvars]
    rfl

def intAt : Option Value → Int
  | some (Value.int _ x) => x
  | _ => 0

/-- A struct or an array whose cells are all ints, taken apart. -/
theorem open_all_ints {W : World} {base n t ti : Nat} {r : Reach} {v : Value} (hi : P.underlying ti = some (.int .i64))
    (ht : (∃ fs, P.underlying t = some (.struct fs)) ∨ ∃ m e, P.underlying t = some (.array m e))
    (hct : P.cellTypes P.depth t = some (List.replicate n ti)) (hC : P.cellsOf t = n) (hv : Value.okWide P W r base t v) :
    ∃ xs : List Int, xs.length = n ∧ v = .agg (xs.map (Value.int .i64)).toArray ∧ ∀ x ∈ xs, -9223372036854775808 ≤ x ∧ x ≤ 9223372036854775807 := by
  have hrow : ∃ cs, v = .agg cs ∧ cs.size = P.cellsOf t ∧ Row.okWide P W r base t cs := by
    rcases ht with ⟨fs, h⟩ | ⟨m, e, h⟩ <;> simpa [Value.okWide, h] using hv
  obtain ⟨cs, rfl, hsz, ts, hts, _, hcell⟩ := hrow
  rw [hct] at hts
  obtain rfl : List.replicate n ti = ts := Option.some.inj hts
  have hone : ∀ i, i < n → ∃ x : Int, cs[i]? = some (.int .i64 x) ∧ -9223372036854775808 ≤ x ∧ x ≤ 9223372036854775807 := by
    intro i hi'
    have hlt : i < cs.size := by omega
    obtain ⟨u, hu, hok⟩ := hcell i cs[i] (Array.getElem?_eq_getElem hlt)
    rw [List.length_replicate, Nat.mod_eq_of_lt hi', List.getElem?_replicate] at hu
    rw [if_pos hi'] at hu
    obtain rfl : ti = u := Option.some.inj hu
    generalize hcv : cs[i] = c at hok
    rw [Array.getElem?_eq_getElem hlt, hcv]
    unfold Cell.okWide at hok
    rw [hi] at hok
    cases c <;> simp [Cell.ok, hi] at hok
    rename_i kk x
    obtain ⟨h1, h2⟩ := hok
    subst h1
    simp [IntKind.has, IntKind.min, IntKind.max, IntKind.signed, IntKind.bits] at h2
    exact ⟨x, rfl, by omega, by omega⟩
  refine ⟨(List.range n).map fun i => intAt cs[i]?, by simp, ?_, ?_⟩
  · congr 1
    apply Array.ext_getElem?
    intro i
    by_cases hi' : i < n
    · obtain ⟨x, hx, _⟩ := hone i hi'
      simp [hi', hx, intAt]
    · have : cs[i]? = none := Array.getElem?_eq_none (by omega)
      simp [this, hi']
  · intro x hx
    obtain ⟨i, hi', rfl⟩ := List.mem_map.1 hx
    obtain ⟨y, hy, h1, h2⟩ := hone i (List.mem_range.1 hi')
    rw [hy]
    exact ⟨h1, h2⟩

/-- An int argument. -/
theorem open_one_int {W : World} {base t : Nat} {r : Reach} {v : Value} (hi : P.underlying t = some (.int .i64)) (hv : Value.okWide P W r base t v) :
    ∃ x : Int, v = .int .i64 x ∧ -9223372036854775808 ≤ x ∧ x ≤ 9223372036854775807 := by
  simp only [Value.okWide, hi] at hv
  unfold Cell.okWide at hv
  rw [hi] at hv
  cases v <;> simp [Cell.ok, hi] at hv
  rename_i kk x
  obtain ⟨h1, h2⟩ := hv
  subst h1
  simp [IntKind.has, IntKind.min, IntKind.max, IntKind.signed, IntKind.bits] at h2
  exact ⟨x, rfl, by omega, by omega⟩

theorem arr1 {α : Type} {xs : Array α} (h : xs.toList.length = 1) : ∃ a, xs = #[a] := by
  obtain ⟨l⟩ := xs
  match l, h with
  | [a], _ => exact ⟨a, rfl⟩
theorem arr2 {α : Type} {xs : Array α} (h : xs.toList.length = 2) : ∃ a b, xs = #[a, b] := by
  obtain ⟨l⟩ := xs
  match l, h with
  | [a, b], _ => exact ⟨a, b, rfl⟩
theorem arr3 {α : Type} {xs : Array α} (h : xs.toList.length = 3) : ∃ a b c, xs = #[a, b, c] := by
  obtain ⟨l⟩ := xs
  match l, h with
  | [a, b, c], _ => exact ⟨a, b, c, rfl⟩
theorem arr4 {α : Type} {xs : Array α} (h : xs.toList.length = 4) : ∃ a b c d, xs = #[a, b, c, d] := by
  obtain ⟨l⟩ := xs
  match l, h with
  | [a, b, c, d], _ => exact ⟨a, b, c, d, rfl⟩
theorem arr5 {α : Type} {xs : Array α} (h : xs.toList.length = 5) : ∃ a b c d e, xs = #[a, b, c, d, e] := by
  obtain ⟨l⟩ := xs
  match l, h with
  | [a, b, c, d, e], _ => exact ⟨a, b, c, d, e, rfl⟩
theorem list3 {α : Type} {xs : List α} (h : xs.length = 3) : ∃ a b c, xs = [a, b, c] := by
  match xs, h with
  | [a, b, c], _ => exact ⟨a, b, c, rfl⟩
theorem list6 {α : Type} {xs : List α} (h : xs.length = 6) : ∃ a b c d e f, xs = [a, b, c, d, e, f] := by
  match xs, h with
  | [a, b, c, d, e, f], _ => exact ⟨a, b, c, d, e, f, rfl⟩
theorem list12 {α : Type} {xs : List α} (h : xs.length = 12) : ∃ a b c d e f g h i j k l, xs = [a, b, c, d, e, f, g, h, i, j, k, l] := by
  match xs, h with
  | [a, b, c, d, e, f, g, h, i, j, k, l], _ => exact ⟨a, b, c, d, e, f, g, h, i, j, k, l, rfl⟩
end

end Go.Proofs.Ytadjnmldgnaabaa.Fr
