/- Numbers and lists of numbers are recovered from their text, texts from their parts, for all bytes. No condition. -/
import Derived.Test.YtnibknaemgpjdaaDoorBaseL5
import Derived.Test.YtnibknaemgpjdaaDoorParL
import Derived.Test.YtnibknaemgpjdaaDoorFmtV
import Derived.Test.YtnibknaemgpjdaaDoorJoinT
import Derived.Test.YtnibknaemgpjdaaDoorOpenB
import Derived.Test.YtnibknaemgpjdaaDoorNums
import Derived.Test.YtnibknaemgpjdaaDoorTxtM
import Derived.Test.YtnibknaemgpjdaaDoorIdent
namespace Go.Proofs.YtnibknaemgpjdaaDoor
open Go Go.RowKit
open Go.ChangeShapes Go.WideShapes Go.ChangeAt

theorem tot_sizes {m : Nat} : ∀ {ss : List ByteArray}, (∀ x ∈ ss, x.size ≤ m) → tot ss ≤ ss.length * m
  | [], _ => by simp [tot]
  | x :: ss, h => by
    have h1 := h x (by simp)
    have h2 := tot_sizes (m := m) (ss := ss) (fun y hy => h y (by simp [hy]))
    rw [List.length_cons, Nat.add_mul, Nat.one_mul]
    show x.size + tot ss ≤ _
    omega
theorem parFmtI {n : Int} (h : inR n = true) (w : World) (hT : Tab w) (hE : Errs w) :
    Calls Tryd.prog 16 #[.string ⟨(fmtZ n).toArray⟩] w fun e w' => e = .returned (.tuple #[.int .i64 n, .bool true]) ∧ Below w.heap.size w w' := by
  have hd : (⟨(fmtZ n).toArray⟩ : ByteArray).data.toList = Lib.itoa n := by rw [data_mk, fmtZ_in h]
  refine (parI _ (by have := itoa_size h; rw [fmtZ_in h]; omega) w hT hE).mono ?_
  rintro e w' ⟨rfl, hb⟩
  rw [hd, numV_some (numOf_itoa h)]
  exact ⟨rfl, hb⟩
def RecInts (xs : List Int) (w : World) (e : Ending) (w' : World) : Prop := ∃ v, e = .returned (.tuple #[v, .bool true]) ∧ IntsAt w' v xs ∧ Below w.heap.size w w'
theorem parFmtL {xs : List Int} (h : ∀ n ∈ xs, inR n = true) (hl : xs.length ≤ 16) (w : World) (hT : Tab w) (hE : Errs w) :
    Calls Tryd.prog 18 #[.string ⟨(fmtInts xs).toArray⟩] w (RecInts xs w) := by
  have hi : intsOf (⟨(fmtInts xs).toArray⟩ : ByteArray).data.toList = some xs := by rw [data_mk, intsOf_fmt h]
  refine (parIntsI _ (by have := txInts_size h hl; omega) w hT hE).mono ?_
  rintro e w' ⟨v, rfl, ho, hb⟩
  rw [hi] at ho
  rw [hi]
  exact ⟨v, rfl, ho.intsAt, hb⟩
def Back (s : ByteArray) (w : World) (e : Ending) (w' : World) : Prop := e = .returned (.string s) ∧ Below w.heap.size w w'
theorem joinBack {s : ByteArray} {v : Value} (hs : s.size ≤ 16) (w : World) (h : ∃ B, OwnStrs w B v (pieces s (sepB ⟨#[32]⟩))) :
    Calls Tryd.prog 22 #[v, .string ⟨#[32]⟩] w (Back s w) := by
  obtain ⟨B, ho⟩ := h
  have hl := pieces_len s (sepB ⟨#[32]⟩)
  have ht := tot_sizes (pieces_size s (sepB ⟨#[32]⟩))
  have hm : (pieces s (sepB ⟨#[32]⟩)).length * s.size ≤ 17 * 16 := Nat.mul_le_mul (by omega) hs
  refine (joinI v (pieces s (sepB ⟨#[32]⟩)) ⟨#[32]⟩ w ho.strsAt (fun a n c hv => ?_) (by omega) (by omega) (by decide)).mono ?_
  · obtain ⟨a', cap, rfl, hcap, _⟩ := ho
    cases hv
    exact hcap
  · rintro e w' ⟨rfl, hb⟩
    refine ⟨?_, hb⟩
    have : joinL [32] ((pieces s (sepB ⟨#[32]⟩)).map (·.data.toList)) = s.data.toList := by rw [pieces_split, join_split]
    show Ending.returned (Value.string ⟨(joinL [32] ((pieces s (sepB ⟨#[32]⟩)).map (·.data.toList))).toArray⟩) = _
    rw [bytes_eq this]
theorem ident_x1 : Ident ⟨#[120, 49]⟩ := by
  refine ⟨fun i hi _ => ?_, by decide, by decide⟩
  rcases (by have : (⟨#[120, 49]⟩ : ByteArray).size = 2 := rfl; omega : i = 0 ∨ i = 1) with rfl | rfl
  · exact .inl (show 97 ≤ (120 : Nat) ∧ (120 : Nat) ≤ 122 by decide)
  · exact .inr (show (1 : Nat) ≠ 0 ∧ 48 ≤ (49 : Nat) ∧ (49 : Nat) ≤ 57 by decide)
theorem isX1 (w : World) : Calls Tryd.prog 24 #[.string ⟨#[120, 49]⟩] w fun e w' => e = .returned (.bool true) ∧ Below w.heap.size w w' := by
  refine (isIdI _ w (by decide)).mono ?_
  rintro e w' ⟨b, rfl, hb, hB⟩
  obtain rfl := hb.2 ident_x1
  exact ⟨rfl, hB⟩
set_option maxRecDepth 100000 in
set_option maxHeartbeats 8000000 in
theorem lawWords (v : Value) (n : Nat) (bs : Nat → Int) (w : World) (h : BytesAt w w.heap.size v n bs) (hm : n ≤ maxLen) (hT : Tab w) (hE : Errs w) :
    Calls Tryd.prog 5 #[v] w fun e w' => e = .returned (.bool true) ∧ Below w.heap.size w w' := by
  unfold maxLen at hm
  have h0 := h
  obtain ⟨hbs, a, cap, rfl, hc⟩ := h
  clear hbs hc
  by_cases hbig : 1048576 < (n : Int)
  · clear h0 hT hE
    go_enter Tryd.func5, Tryd.ntmps5
    go_wp2
    go_ret
    exact ⟨rfl, Below.refl _ _⟩
  · have hn : n ≤ 1048576 := by omega
    have H0 := Lib.hid h0
    have HT := Lib.hid hT
    have HE := Lib.hid hE
    clear h0 hT hE
    have hB : Below w.heap.size w w := Below.refl _ _
    go_enter Tryd.func5, Tryd.ntmps5
    go_wp2_with fail
    clear hbig hm
    refine (makeNum_any 1 _ _ _ n bs (by omega) (by omega) hB.size hn (H0.out.keep hB)).mono ?_
    rintro r w1 ⟨x, rfl, hx0, hx1, hb⟩
    replace hB := b_keep hb hB
    clear hb
    go_wp2_with fail
    have HR : Hid (inR (x - 30000) = true) := Lib.hid (inR_of (by omega))
    refine (makeInts_any _ _ _ n bs hB.size hn (H0.out.keep hB)).mono ?_
    rintro r w2 ⟨u, xs, rfl, hl, hxs, hown, hb⟩
    have hI := intsAt_of_own hown
    have HX : Hid (∀ n ∈ xs, inR n = true) := Lib.hid (fun n hn => inR_of (by have := hxs n hn; omega))
    replace hB := b_keep hb hB
    clear hb hown hxs
    generalize x - 30000 = y at HR ⊢
    clear hx0 hx1
    go_wp2_with fail
    refine (fmtI y _ (HT.out.keep hB)).mono ?_
    rintro r w3 ⟨rfl, hb⟩
    replace hB := b_keep hb hB
    replace hI := hI.keep hb
    clear hb
    have HC := Lib.hid (parFmtI HR.out w3 (HT.out.keep hB) (HE.out.keep hB))
    generalize (⟨(fmtZ y).toArray⟩ : ByteArray) = ty at HC ⊢
    go_wp2_with fail
    refine HC.out.mono ?_
    rintro r w4 ⟨rfl, hb⟩
    replace hB := b_keep hb hB
    replace hI := hI.keep hb
    clear hb HC
    go_wp2_with fail
    refine (fmtIntsI u xs _ hI (by omega) (HT.out.keep hB)).mono ?_
    rintro r w5 ⟨rfl, hb⟩
    replace hB := b_keep hb hB
    replace hI := hI.keep hb
    clear hb
    have HC := Lib.hid (parFmtL HX.out (by omega) w5 (HT.out.keep hB) (HE.out.keep hB))
    generalize (⟨(fmtInts xs).toArray⟩ : ByteArray) = tl at HC ⊢
    go_wp2_with fail
    refine HC.out.mono ?_
    rintro r w6 ⟨u2, rfl, hI2, hb⟩
    replace hB := b_keep hb hB
    replace hI := hI.keep hb
    clear hb HC HT HE HX HR
    go_wp2_with fail
    refine (makeText_any _ _ _ n bs hB.size hn (H0.out.keep hB)).mono ?_
    rintro r w7 ⟨s, rfl, hs, hb⟩
    replace hB := b_keep hb hB
    replace hI := hI.keep hb
    replace hI2 := hI2.keep hb
    clear hb H0
    go_wp2_with fail
    refine (sameInts_same u u2 xs _ hI hI2 (by omega)).mono ?_
    rintro r w8 ⟨rfl, rfl⟩
    clear hI hI2
    go_wp2_with fail
    refine (splitI s ⟨#[32]⟩ _ (by omega)).mono ?_
    rintro r w9 ⟨p, rfl, hp, hb⟩
    replace hB := b_keep hb hB
    clear hb
    have HJ := Lib.hid (joinBack hs w9 ⟨_, hp⟩)
    clear hp
    go_wp2_with fail
    refine HJ.out.mono ?_
    rintro r w10 ⟨rfl, hb⟩
    replace hB := b_keep hb hB
    clear hb HJ
    go_wp2_with fail
    refine (isX1 _).mono ?_
    rintro r w11 ⟨rfl, hb⟩
    replace hB := b_keep hb hB
    clear hb
    go_wp2
    go_ret
    exact ⟨rfl, hB⟩

set_option maxRecDepth 100000 in
theorem FnWords_run {H : Type} {enc : TypeId × Value → H} (W : World) (base : Nat) (args : Array Value) (ds : List (DataW H)) (p : List MemPlace)
    (hL : laidMetH Tryd.prog laid5 W) (hl : args.toList.length = Tryd.f5.params.toList.length)
    (hval : ∀ (j : Nat) t v, Tryd.f5.params[j]? = some t → args[j]? = some v → Value.okWide Tryd.prog W .any base t v)
    (hA : DataW.TrodAll enc Tryd.prog W 0 (fun _ => true) true Tryd.f5.params.toList args.toList ds p) :
    Calls Tryd.prog 5 args W fun e w' => e = .returned (.bool true) ∧ Below W.heap.size W w' := by
  rw [Tryd.params5] at hl hval hA
  obtain ⟨v0, d0, rfl, rfl, h0⟩ := trodAll_one hA
  obtain ⟨n, bs, hx, hm⟩ := open_bytes Tryd.underlying37 Tryd.underlying5 (by kernel_rfl) (hval 0 37 v0 rfl rfl) h0
  exact lawWords v0 n bs W hx hm (tab_of5 hL) (errs_of5 hL)

set_option maxRecDepth 100000 in
theorem FnWords_lifted (os : Os) (started : os.Started) (H : Type) (enc : TypeId × Value → H) :
    ReturnsInHanded {} Tryd.checked os 5 .any (fun w args => (Rows.fnWordsSpec.pre enc Tryd.prog Tryd.f5 [] false w args ∧ laidMetH Tryd.prog laid5 w) ∧ sizedMet enc Tryd.prog Tryd.f5 (OpenSpec.ofChange Rows.fnWordsSpec) false w args)
      (Rows.fnWordsSpec.post enc Tryd.prog Tryd.f5 false true false false) := by
  refine returnsInHanded_of_change_and (C := Tryd.checked) (X := fun w _ => laidMetH Tryd.prog laid5 w) (fun _ _ _ hh h => h.of_heap hh) own started (by kernel_rfl) Tryd.func5
    (ChangeSpec.witness_shaped (enc := enc) (C := Tryd.checked) (os := os) (X := fun w _ => laidMetH Tryd.prog laid5 w) false (World.doorLaid Tryd.prog 62 os) #[.slice none 0 0] 8 rfl (World.shaped_of_RefB (by kernel_rfl) (by kernel_rfl)) (by kernel_rfl) (by kernel_rfl) (by kernel_rfl) (door5_met os _)) ?_
  intro W base args ds gs before hval hW _ _ hL _
  exact Fr.contractAt (P := Tryd.prog) (tb := 4) laidOut (by kernel_rfl) rfl rfl (by kernel_rfl) (fun ds hl => by match ds, hl with | [_], _ => rfl) W base args (fun ds p => FnWords_run W base args ds p hL) ds gs before hval hW

theorem FnWords_row : Rows.FnWordsSaid :=
  OpenClaim.holds_of_wide 5 Tryd.f5 rfl rfl rfl rfl rfl rfl rfl ⟨rfl, rfl, rfl, rfl, rfl⟩ rfl rfl rfl rfl rfl (by kernel_rfl) Tryd.func5 (by kernel_rfl)
    (of_decide_eq_true (by kernel_rfl)) (by unfold Func.isWrapper; first | (rw [if_pos (by decide +kernel)]; kernel_rfl) | (rw [if_neg (by decide +kernel)]; exact ⟨rfl, rfl⟩))
    (fun os started H enc _ => FnWords_lifted os started H enc)

theorem FnWords_holds : Rows.FnWordsCardSaid :=
  Claim7.holds_tied_plain_at .later [] _ true _ _ FnWords_row (fun _ h => by cases h) (by kernel_rfl) (fun _ h => by cases h) fnWords_row_tie rfl ⟨rfl, rfl⟩ (by kernel_rfl) rfl
    (fun f fn hf hfn => by
      obtain rfl : f = 5 := Option.some.inj ((show Tryd.prog.funcNamed Rows.fnWordsRow.func = some 5 by kernel_rfl).symm.trans hf) |>.symm
      obtain rfl : fn = Tryd.f5 := (Option.some.inj (Tryd.func5.symm.trans hfn)).symm
      exact ⟨by kernel_rfl, fun j t ht => by
        have hm : t ∈ Tryd.f5.params.toList := by simpa using Array.mem_of_getElem? ht
        have hall : (Tryd.f5.params.toList.all fun u => !Tryd.prog.wantsStandIn u) = true := by kernel_rfl
        exact (show Tryd.prog.wantsStandIn t = false by simpa using List.all_eq_true.1 hall t hm)⟩)
    (by kernel_rfl)
#print axioms FnWords_holds
end Go.Proofs.YtnibknaemgpjdaaDoor
