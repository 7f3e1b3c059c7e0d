/- ParseInt, of the program and of the reference: the number whose text it is. -/
import Derived.Test.YtnibknaemgpjdaaDoorFmtT
import Derived.Lib.AtoiErrMem
namespace Go.Proofs.YtnibknaemgpjdaaDoor
open Go Go.RowKit Go.Sort
open Go.Lib (decDigits itoa)

/-- The library's two errors are laid. -/
def Errs (w : World) : Prop := (∃ tp p, w.var? Tryd.prog "strconv.ErrSyntax" = some #[.iface tp p]) ∧ (∃ tp p, w.var? Tryd.prog "strconv.ErrRange" = some #[.iface tp p])
theorem Errs.keep {w w' : World} (h : Errs w) (hb : Below w.heap.size w w') : Errs w' := by
  obtain ⟨⟨a, b, h1⟩, c, d, h2⟩ := h
  exact ⟨⟨a, b, var_keep h1 hb⟩, c, d, var_keep h2 hb⟩
/-- What ParseInt answers. -/
def numV (l : List UInt8) : Value := .tuple #[.int .i64 ((numOf l).getD 0), .bool (numOf l).isSome]
theorem numV_some {l : List UInt8} {n : Int} (h : numOf l = some n) : numV l = .tuple #[.int .i64 n, .bool true] := by unfold numV; rw [h]; rfl
theorem numV_none {l : List UInt8} (h : numOf l = none) : numV l = .tuple #[.int .i64 0, .bool false] := by unfold numV; rw [h]; rfl
theorem bytes_eq {s : ByteArray} {l : List UInt8} (h : l = s.data.toList) : (⟨l.toArray⟩ : ByteArray) = s := bytes_ext (by rw [data_mk, h])
theorem bytes_neq {s : ByteArray} {l : List UInt8} (h : l ≠ s.data.toList) : ((⟨l.toArray⟩ : ByteArray).toList == s.toList) = false := by
  rw [Lib.toList_data, Lib.toList_data, data_mk]
  simpa using h

/-- What Atoi answers: a number, or an error. -/
def AtoiRes (l : List UInt8) (w : World) (e : Ending) (w' : World) : Prop :=
  ((∃ v, Lib.atoiAll l = .ok v ∧ e = .returned (.tuple #[.int .i64 v, .nilIface])) ∨ (numOf l = none ∧ ∃ (x : Int) (t : TypeId) (N : Nat), e = .returned (.tuple #[.int .i64 x, .iface t (.pointer (some ⟨N, 0, none⟩))]))) ∧ Below w.heap.size w w'
theorem atoiCall (s : ByteArray) (hs : s.size ≤ 1048576) (w : World) (hE : Errs w) : Calls Tryd.prog 55 #[.string s] w (AtoiRes s.data.toList w) := by
  obtain ⟨⟨a, b, h1⟩, c, d, h2⟩ := hE
  rcases h : Lib.atoiAll s.data.toList with v | _ | _
  · refine (Tryd.strconv_Atoi_ok s (by omega) v h w).mono ?_
    rintro e w' ⟨rfl, hw⟩
    refine ⟨.inl ⟨v, h, rfl⟩, ?_⟩
    rcases hw with rfl | ⟨t, rfl⟩
    · exact Below.refl _ _
    · exact Lib.bytesWorld_below _ _ _
  · refine Calls.mono (Any.strconv_Atoi_syntax_var Tryd.laysC172 s (by omega) h a b w h1) ?_
    rintro e w' ⟨N, rfl, _, _, hb⟩
    exact ⟨.inr ⟨numOf_of_fail (fun v e => by rw [h] at e; cases e), _, _, _, rfl⟩, hb⟩
  · refine Calls.mono (Any.strconv_Atoi_range_var Tryd.laysC172 s (by omega) h c d w h2) ?_
    rintro e w' ⟨N, rfl, _, _, hb⟩
    exact ⟨.inr ⟨numOf_of_fail (fun v e => by rw [h] at e; cases e), _, _, _, rfl⟩, hb⟩

def NumRes (s : ByteArray) (w : World) (e : Ending) (w' : World) : Prop := e = .returned (numV s.data.toList) ∧ Below w.heap.size w w'
theorem numRes_mk {s : ByteArray} {w w' : World} {v : Value} (h : numV s.data.toList = v) (hb : Below w.heap.size w w') : NumRes s w (.returned v) w' := ⟨by rw [h], hb⟩
set_option maxHeartbeats 1000000 in
theorem parI (s : ByteArray) (hs : s.size ≤ 1048576) (w : World) (hT : Tab w) (hE : Errs w) : Calls Tryd.prog 16 #[.string s] w (NumRes s w) := by
  have HT := Lib.hid hT
  have HA := Lib.hid (atoiCall s hs w hE)
  clear hT hE
  go_enter Tryd.func16, Tryd.ntmps16
  go_wp2_with fail
  refine HA.out.mono ?_
  rintro e w1 ⟨h, hb⟩
  have HT1 := Lib.hid (HT.out.keep hb)
  clear HT HA
  rcases h with ⟨v, hv, rfl⟩ | ⟨hn, x, t, N, rfl⟩
  · have hv' := numOf_of_atoi hv
    cases he : s.toList.isEmpty with
    | true =>
      have h0 : s.data.toList = [] := by rw [Lib.toList_data] at he; simpa using he
      rw [h0] at hv
      cases hv
    | false =>
      have h0 : s.data.toList ≠ [] := by
        intro e0
        rw [Lib.toList_data, e0] at he
        cases he
      by_cases hf : fmtZ v = s.data.toList
      · rw [if_pos ⟨h0, hf⟩] at hv'
        have HV := Lib.hid (numV_some hv')
        have HS := Lib.hid (bytes_eq hf)
        have HF := Lib.hid (fmtI v w1 HT1.out)
        rw [HS.out] at HF
        clear hv hv' h0 hf
        go_wp2_with fail
        refine HF.out.mono ?_
        rintro e w2 ⟨rfl, hb2⟩
        go_wp2
        go_ret2
        exact numRes_mk HV.out (hb.trans (hb2.mono hb.size))
      · rw [if_neg (fun hc => hf hc.2)] at hv'
        have HV := Lib.hid (numV_none hv')
        have hS := bytes_neq hf
        have HF := Lib.hid (fmtI v w1 HT1.out)
        clear hv hv' h0 hf
        generalize (⟨(fmtZ v).toArray⟩ : ByteArray) = t at HF hS
        go_wp2_with fail
        refine HF.out.mono ?_
        rintro e w2 ⟨rfl, hb2⟩
        go_wp2
        go_ret2
        exact numRes_mk HV.out (hb.trans (hb2.mono hb.size))
  · have HV := Lib.hid (numV_none hn)
    clear hn
    go_wp2
    go_ret2
    exact numRes_mk HV.out hb
end Go.Proofs.YtnibknaemgpjdaaDoor
