/- The frame of a law's proof where the row lists package-level variables: the walk may use what they hold. Any program. -/
import Derived.Test.YtnibknaemgpjdaaDoorFrame
namespace Go.Proofs.YtnibknaemgpjdaaDoor.Fr
open Go Go.ChangeShapes Go.WideShapes Go.ChangeAt Go.RowKit

/-- As 'contract', the walk asked for in the one world at hand. -/
theorem contractAt {H : Type} {enc : TypeId × Value → H} {P : Program} {fn : Func} {s : ChangeSpec} {k tb : Nat} (hl : laidOutB P = true) (hb : P.underlying tb = some .bool) (hres : fn.resultTypes = #[tb]) (hvars : s.vars = [])
    (hT : fn.params.toList.all (fun t => P.readableRec t && decide (t < P.types.size)) = true)
    (hspec : ∀ ds : List (DataW H), ds.length = fn.params.toList.length → s.fn H (ds ++ []) = { results := [.lit (.bool true)], args := ds })
    (W : World) (base : Nat) (args : Array Value)
    (hwalk : ∀ (ds : List (DataW H)) (p : List MemPlace), args.toList.length = fn.params.toList.length →
      (∀ (j : Nat) t v, fn.params[j]? = some t → args[j]? = some v → Value.okWide P W .any base t v) →
      DataW.TrodAll enc P W 0 (fun _ => true) true fn.params.toList args.toList ds p → Calls P k args W fun e w' => e = .returned (.bool true) ∧ Below W.heap.size W w')
    (ds gs : List (DataW H)) (before : List MemPlace)
    (hval : ∀ (j : Nat) t v, fn.params[j]? = some t → args[j]? = some v → Value.okWide P W .any base t v)
    (hW : DataW.Whole enc P fn.params.toList s.vars false W args.toList ds gs before) :
    Calls P k args W fun e W' => ∃ v, e = .returned v ∧ s.post enc P fn false true false false W args v W' := by
  have hW' := hW
  obtain ⟨p, q, hA, hV, rfl, hfz, hnd⟩ := hW
  rw [hvars] at hV
  obtain ⟨rfl, rfl⟩ := trodVars_none hV
  have hlen := trodAll_length hA
  have hT' : ∀ t ∈ fn.params.toList, P.readableRec t = true ∧ t < P.types.size := fun t ht => by
    have := List.all_eq_true.1 hT t ht
    simpa using this
  refine (hwalk ds p hlen.1 hval hA).mono fun e W' ⟨he, bel⟩ => ?_
  subst he
  have hs := hspec ds hlen.2
  refine ⟨_, rfl, ds, [], _, [], p, [], hW', ?_, ?_, ?_, bel.frame _, fun h => by cases h⟩
  · rw [hs, hres]
    exact trodAll_mk1 (shut_bool hb _)
  · rw [hs]
    exact trodAll_carry hl bel hT' hA
  · rw [hs, hvars]
    rfl
end Go.Proofs.YtnibknaemgpjdaaDoor.Fr
