/- A region that draws its order and ends in a forced tail: the head in whatever order, then the tail as a plain list. Any program. -/
import Derived.StillTail
import Derived.OrdersHeld
import Derived.Deep.RegionHeld
namespace Go.Proofs.Ytadjnmldgnaabaa
open Go

section
variable {P : Program} {ops : Array Oper} {Q : Exit → Act → World → Prop} {md : Region.Mode} {R : Act → World → Prop}

/-- Q, with R for what follows at the region's end. -/
def withNormal (Q : Exit → Act → World → Prop) (R : Act → World → Prop) : Exit → Act → World → Prop
  | .normal, a, w => R a w
  | .panic c, a, w => Q (.panic c) a w
  | .outgrown, a, w => Q .outgrown a w
  | e, a, w => Q e a w

theorem wpOp_post {i : Nat} {K : Act → World → Prop} {a : Act} {w : World} (h : wpOp P ops (withNormal Q R) i K a w) : wpOp P ops Q i K a w := by
  unfold wpOp at *
  cases ho : ops[i]? with
  | none => simpa [ho] using h
  | some o =>
    simp only [ho] at h ⊢
    split
    · rename_i hw
      simp only [hw, if_true] at h
      rcases h with h | ⟨h1, h2⟩
      · refine .inl ?_
        unfold Oper.wp at *
        generalize (execOp a.eval o).run P w = r at *
        cases r with
        | ok n w' =>
          cases n <;> simp only [Oper.upon] at h ⊢
          case enter f args =>
            refine Calls.mono h fun e w'' he => ?_
            cases e <;> exact he
          all_goals exact h
        | halt x w' =>
          cases x <;> simp only [Oper.upon] at h ⊢
          case panic u => exact h
      · exact .inr ⟨h1, h2⟩
    · rename_i hw
      simp only [hw] at h
      exact h

theorem wpAny_fuel : ∀ (f : Nat) (l : Array Bool) (a : Act) (w : World), wpAny P md ops Q f l a w → wpAny P md ops Q (f + 1) l a w
  | 0, l, a, w, h => ⟨fun _ => h.2, fun i hi => by rw [h.1] at hi; cases hi⟩
  | f + 1, l, a, w, h => ⟨h.1, fun i hi => wpOp_mono (fun a' w' h' => wpAny_fuel f _ a' w' h') (h.2 i hi)⟩
theorem wpAny_fuels (g : Nat) : ∀ (f : Nat) (l : Array Bool) (a : Act) (w : World), wpAny P md ops Q g l a w → wpAny P md ops Q (f + g) l a w
  | 0, l, a, w, h => by rw [Nat.zero_add]; exact h
  | f + 1, l, a, w, h => by rw [show f + 1 + g = (f + g) + 1 by omega]; exact wpAny_fuel _ _ _ _ (wpAny_fuels g f l a w h)

/-- In the head every edge goes back. -/
def backB (md : Region.Mode) (ops : Array Oper) (n : Nat) : Bool :=
  (List.range n).all fun j => match ops[j]? with
    | some o => o.after.all fun e => !Region.binds md e || decide (e.on < j)
    | none => false

theorem heads_of_none {n : Nat} {lp : Array Bool} (hb : backB md ops n = true) (hsz : n ≤ lp.size) (h : Region.ready md ops lp = []) : ∀ j, j < n → lp.getD j true = true := by
  intro j
  induction j using Nat.strongRecOn with
  | _ j ih =>
    intro hj
    cases hl : lp.getD j true with
    | true => rfl
    | false =>
      exfalso
      have h1 := List.all_eq_true.1 hb j (List.mem_range.2 hj)
      cases ho : ops[j]? with
      | none => simp [ho] at h1
      | some o =>
        simp only [ho] at h1
        have : j ∈ Region.ready md ops lp := mem_ready.2 ⟨hl, o, ho, fun e he hbd => by
          have h2 := Array.all_eq_true'.1 h1 e he
          simp only [hbd, Bool.not_true, Bool.false_or, decide_eq_true_eq] at h2
          have h3 := ih e.on h2 (by omega)
          have h4 : e.on < lp.size := by omega
          simp [h4] at h3 ⊢
          exact h3⟩
        rw [h] at this
        cases this

theorem wpAny_split {n g : Nat} {lH : Array Bool} (hs : Region.sinkB md ops n = true) (hc : Region.chainB md ops n = true) (hn : n < ops.size) (hb : backB md ops n = true)
    (hlH : lH.size = ops.size ∧ (∀ j, j < n → lH.getD j false = true) ∧ ∀ j, n ≤ j → j < ops.size → lH.getD j true = false)
    (hR : ∀ a w, R a w → wpAny P md ops Q g lH a w) :
    ∀ (f : Nat) (l lp : Array Bool) (a : Act) (w : World), HeadInv md ops n l → lp.size = ops.size → (∀ j, j < n → l[j]? = lp[j]?) → (∀ j, n ≤ j → j < ops.size → lp.getD j false = true) →
      wpAny P md ops (withNormal Q R) f lp a w → wpAny P md ops Q (f + g) l a w := by
  have same : ∀ (l lp : Array Bool), HeadInv md ops n l → lp.size = ops.size → (∀ j, j < n → l[j]? = lp[j]?) → Region.ready md ops lp = [] → l = lH := by
    intro l lp inv hsz heq hr
    have hh := heads_of_none hb (by omega) hr
    apply Array.ext
    · rw [inv.size, hlH.1]
    · intro j h1 h2
      by_cases hj : j < n
      · have h3 := hh j hj
        have h4 := heq j hj
        have h5 := hlH.2.1 j hj
        have h6 : j < lp.size := by omega
        simp [h1, h6] at h3 h4
        simp [h2] at h5
        rw [h4, h3, h5]
      · have hsz' := inv.size
        have h3 := inv.tail j (by omega) (by omega)
        have h5 := hlH.2.2 j (by omega) (by omega)
        simp [h1] at h3
        simp [h2] at h5
        rw [h3, h5]
  intro f
  induction f with
  | zero =>
    intro l lp a w inv hsz heq htl h
    have e := same l lp inv hsz heq h.1
    subst e
    rw [Nat.zero_add]
    exact hR a w h.2
  | succ f ih =>
    intro l lp a w inv hsz heq htl h
    by_cases hr : Region.ready md ops lp = []
    · have e := same l lp inv hsz heq hr
      subst e
      exact wpAny_fuels g (f + 1) _ a w (hR a w (h.1 hr))
    · -- some head is not listed
      obtain ⟨i, hi⟩ := List.exists_mem_of_ne_nil _ hr
      obtain ⟨hiun, oi, hoi, _⟩ := mem_ready.1 hi
      have hilt : i < ops.size := (Array.getElem?_eq_some_iff.1 hoi).1
      have hin : i < n := by
        rcases Nat.lt_or_ge i n with h' | h'
        · exact h'
        · have := htl i h' hilt
          have h6 : i < lp.size := by omega
          simp [h6] at this hiun
          rw [this] at hiun
          cases hiun
      have hil : l.getD i true = false := by
        have h4 := heq i hin
        have h6 : i < lp.size := by omega
        have h7 : i < l.size := by rw [inv.size]; omega
        simp [h6, h7] at h4 hiun ⊢
        rw [h4]; exact hiun
      have tails : ∀ t, n ≤ t → t ∉ Region.ready md ops l := tail_waits hs hc hn inv _ i rfl hin hil
      rw [show f + 1 + g = (f + g) + 1 by omega]
      refine ⟨fun h0 => ?_, fun j hj => ?_⟩
      · exfalso
        apply hr
        -- what is ready in lp among the heads is ready in l: none; so lp has no head ready
        refine List.eq_nil_iff_forall_not_mem.2 fun k hk => ?_
        obtain ⟨hkun, ok, hok, hkall⟩ := mem_ready.1 hk
        have hklt : k < ops.size := (Array.getElem?_eq_some_iff.1 hok).1
        have hkn : k < n := by
          rcases Nat.lt_or_ge k n with h' | h'
          · exact h'
          · have := htl k h' hklt
            have h6 : k < lp.size := by omega
            simp [h6] at this hkun
            rw [this] at hkun
            cases hkun
        have h1 := List.all_eq_true.1 hb k (List.mem_range.2 hkn)
        simp only [hok] at h1
        have : k ∈ Region.ready md ops l := mem_ready.2 ⟨by
          have h4 := heq k hkn
          have h6 : k < lp.size := by omega
          have h7 : k < l.size := by rw [inv.size]; omega
          simp [h6, h7] at h4 hkun ⊢
          rw [h4]; exact hkun, ok, hok, fun e he hbd => by
            have h2 := Array.all_eq_true'.1 h1 e he
            simp only [hbd, Bool.not_true, Bool.false_or, decide_eq_true_eq] at h2
            have h3 := hkall e he hbd
            have h4 := heq e.on (by omega)
            have h6 : e.on < lp.size := by omega
            have h7 : e.on < l.size := by rw [inv.size]; omega
            simp [h6, h7] at h3 h4 ⊢
            rw [h4]; exact h3⟩
        rw [h0] at this
        cases this
      · have hjn : j < n := by
          rcases Nat.lt_or_ge j n with h' | h'
          · exact h'
          · exact absurd hj (tails j h')
        obtain ⟨hjun, oj, hoj, hjall⟩ := mem_ready.1 hj
        have hjp : j ∈ Region.ready md ops lp := mem_ready.2 ⟨by
          have h4 := heq j hjn
          have h6 : j < lp.size := by omega
          have h7 : j < l.size := by rw [inv.size]; omega
          simp [h6, h7] at h4 hjun ⊢
          rw [← h4]; exact hjun, oj, hoj, fun e he hbd => by
            have h3 := hjall e he hbd
            have h7 : e.on < l.size := by
              rcases Nat.lt_or_ge e.on l.size with h' | h'
              · exact h'
              · simp [Array.getElem?_eq_none h'] at h3
            have hsz' := inv.size
            have h6 : e.on < lp.size := by omega
            by_cases hen : e.on < n
            · have h4 := heq e.on hen
              simp [h6, h7] at h3 h4 ⊢
              rw [← h4]; exact h3
            · exact htl e.on (by omega) (by omega)⟩
        refine wpOp_mono (fun a' w' h' => ih (l.setIfInBounds j true) (lp.setIfInBounds j true) a' w' (inv.set hj hjn) (by simp [hsz]) (fun k hk => ?_) (fun k hk hk' => ?_) h') (wpOp_post (h.2 j hjp))
        · simp only [Array.getElem?_setIfInBounds]
          have hsz' := inv.size
          rw [heq k hk, hsz, hsz']
        · exact getD_set_true (htl k hk hk')

def headOff (n N : Nat) : Array Bool := (List.replicate n false ++ List.replicate (N - n) true).toArray
def headOn (n N : Nat) : Array Bool := (List.replicate n true ++ List.replicate (N - n) false).toArray

/-- From n on the region is a chain that waits for all that stands ahead of it. -/
def tailB (md : Region.Mode) (ops : Array Oper) (n : Nat) : Bool :=
  decide (n < ops.size) && Region.sinkB md ops n && Region.chainB md ops n && backB md ops n && Region.seqB md ops (ops.size - n) n (headOn n ops.size)

theorem wp_region_tail {S : World → Prop} {id : Nat} {a : Act} {w : World} {l : List Oper} (n : Nat) (hm : P.follows .mixedOrders = true) (hB : tailB .any l.toArray n = true) (hS : S w.drew)
    (h : S w.drew → wpAnyH P .any l.toArray (withNormal Q (wpList P l.toArray Q (l.drop n))) S n (headOff n l.length) a w.drew) : (Code.region id l.toArray true).wp P Q a w := by
  simp only [tailB, Bool.and_eq_true, decide_eq_true_eq] at hB
  obtain ⟨⟨⟨⟨hn, hs⟩, hc⟩, hb⟩, hq⟩ := hB
  have hn' : n < l.length := by simpa using hn
  have inv0 : HeadInv .any l.toArray n (Array.replicate l.toArray.size false) :=
    ⟨by simp, fun j oj _ hl => (by rw [getD_replicate_false] at hl; cases hl), fun t _ ht => getD_in (by simpa using ht) (getD_replicate_false _ _)⟩
  have hdl : (l.drop n).length = l.toArray.size - n := by simp
  have hR : ∀ a' w', wpList P l.toArray Q (l.drop n) a' w' → wpAny P .any l.toArray Q (l.toArray.size - n) (headOn n l.toArray.size) a' w' := fun a' w' hw => by
    have := wpAny_of_seq (md := .any) (Q' := Q) (l.drop n) n (headOn n l.toArray.size) a' w' (fun j => by simp [List.getElem?_drop]) (by rw [hdl]; exact hq) hw
    rwa [hdl] at this
  refine wp_region_any hm ?_
  have H := wpAny_split (P := P) (md := .any) (ops := l.toArray) (Q := Q) (R := wpList P l.toArray Q (l.drop n)) (n := n) (g := l.toArray.size - n) (lH := headOn n l.toArray.size) hs hc hn hb
    ⟨by simp [headOn]; omega, fun j hj => by simp [headOn, List.getElem?_append, hj], fun j h1 h2 => by
      have h3 : ¬ j < n := by omega
      have h4 : j - n < l.length - n := by simp at h2; omega
      simp [headOn, List.getElem?_append, h3, h4]⟩ hR n (Array.replicate l.toArray.size false) (headOff n l.length) a w.drew inv0
    (by simp [headOff]; omega) (fun j hj => by
      have h2 : j < l.length := by omega
      simp [headOff, List.getElem?_append, hj, h2]) (fun j h1 h2 => by
      have h3 : ¬ j < n := by omega
      have h4 : j - n < l.length - n := by simp at h2; omega
      simp [headOff, List.getElem?_append, h3, h4]) (wpAny_of_held _ _ _ _ (h hS))
  rwa [show n + (l.toArray.size - n) = l.toArray.size by omega] at H
end
end Go.Proofs.Ytadjnmldgnaabaa
