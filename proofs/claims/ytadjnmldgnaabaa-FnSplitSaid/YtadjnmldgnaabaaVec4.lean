/- Contracts of the functions on vectors, continued: multiples and quotients. -/
import Derived.Test.YtadjnmldgnaabaaVec2
namespace Go.Proofs.Ytadjnmldgnaabaa
open Go.RowKit

set_option maxHeartbeats 400000 in
theorem times1 (n k : Int) (p : Nat) (h0n : -1000000000000000 ≤ k * n) (h1n : k * n ≤ 1000000000000000) (w : World) (hc : w.cell? ⟨p, 0, none⟩ = some (.int .i64 k)) :
    Calls Try.prog 37 #[.int .i64 n, .pointer (some ⟨p, 0, none⟩)] w fun e w' => e = .returned (.int .i64 (k * n)) ∧ w = w' := by
  go_enter Try.func37, Try.ntmps37
  go_wp2
  go_ret
  exact ⟨rfl, rfl⟩
set_option maxHeartbeats 2000000 in
theorem each_times (x y z k : Int) (p : Nat) (h0x : -1000000000000000 ≤ k * x) (h1x : k * x ≤ 1000000000000000) (h0y : -1000000000000000 ≤ k * y) (h1y : k * y ≤ 1000000000000000) (h0z : -1000000000000000 ≤ k * z) (h1z : k * z ≤ 1000000000000000) (w : World) (hc : w.cell? ⟨p, 0, none⟩ = some (.int .i64 k)) (hp : p < w.heap.size) :
    Calls Try.prog 32 #[.agg #[.int .i64 (x), .int .i64 (y), .int .i64 (z)], .func (.func 37) #[] #[.pointer (some ⟨p, 0, none⟩)]] w
      fun e w' => e = .returned (vec (k * x) (k * y) (k * z)) ∧ Below w.heap.size w w' := by
  have hp1 : p ≠ w.heap.size := by omega
  have hp2 : p ≠ w.heap.size + 1 := by omega
  have Hx := Lib.hid (fun (W : World) (H : W.cell? ⟨p, 0, none⟩ = some (.int .i64 k)) => times1 x k p h0x h1x W H)
  have Hy := Lib.hid (fun (W : World) (H : W.cell? ⟨p, 0, none⟩ = some (.int .i64 k)) => times1 y k p h0y h1y W H)
  have Hz := Lib.hid (fun (W : World) (H : W.cell? ⟨p, 0, none⟩ = some (.int .i64 k)) => times1 z k p h0z h1z W H)
  clear h0x h1x h0y h1y h0z h1z
  have g0 : ((w.alloc (.cells #[.int .i64 (x), .int .i64 (y), .int .i64 (z)] 33)).alloc (.cells #[.int .i64 (0), .int .i64 (0), .int .i64 (0)] 33)).cell? ⟨p, 0, none⟩ = some (.int .i64 k) := by
    rw [World.cell?_alloc_past _ _ _ (by simp; omega), World.cell?_alloc_past _ _ _ hp]; exact hc
  go_enter Try.func32, Try.ntmps32
  go_wp2
  go_region_held3 (fun w' => w'.cell? ⟨w.heap.size, 0, none⟩ = some (.int .i64 x) ∧ w'.cell? ⟨w.heap.size, 1, none⟩ = some (.int .i64 y) ∧ w'.cell? ⟨w.heap.size, 2, none⟩ = some (.int .i64 z) ∧ w'.cell? ⟨p, 0, none⟩ = some (.int .i64 k)) (first | exact ⟨by assumption, by assumption, by assumption, by assumption⟩ | go_keep)
    (first
      | (go_at_call_of 37 (Value.int .i64 x); refine (Hx.out _ ?_).mono ?_; (go_split_ands; assumption); rintro e w' ⟨rfl, rfl⟩)
      | (go_at_call_of 37 (Value.int .i64 y); refine (Hy.out _ ?_).mono ?_; (go_split_ands; assumption); rintro e w' ⟨rfl, rfl⟩)
      | (go_at_call_of 37 (Value.int .i64 z); refine (Hz.out _ ?_).mono ?_; (go_split_ands; assumption); rintro e w' ⟨rfl, rfl⟩))
  go_wp2
  exact bodyPost_ret (v := vec (k * x) (k * y) (k * z)) (by simp [results, Try.results32, go_sem]) rfl ⟨rfl, (((Below.refl _ _).alloc (Nat.le_refl _) _).alloc (by simp) _).drew⟩
set_option maxHeartbeats 2000000 in
theorem times_any (x y z k : Int) (h0x : -1000000000000000 ≤ k * x) (h1x : k * x ≤ 1000000000000000) (h0y : -1000000000000000 ≤ k * y) (h1y : k * y ≤ 1000000000000000) (h0z : -1000000000000000 ≤ k * z) (h1z : k * z ≤ 1000000000000000) (w : World) :
    Calls Try.prog 30 #[.agg #[.int .i64 (x), .int .i64 (y), .int .i64 (z)], .int .i64 k] w
      fun e w' => e = .returned (vec (k * x) (k * y) (k * z)) ∧ Below w.heap.size w w' := by
  have H := Lib.hid (fun (p : Nat) (W : World) (hc : W.cell? ⟨p, 0, none⟩ = some (.int .i64 k)) (hp : p < W.heap.size) => each_times x y z k p h0x h1x h0y h1y h0z h1z W hc hp)
  clear h0x h1x h0y h1y h0z h1z
  have hmf : ∀ (fn : Fn) (first cap : Array Value) (w : World), (Instr.makeFunc fn first cap).run Try.prog w = .ok (.func fn first cap) w := fun _ _ _ _ => rfl
  have hB := below3 w (.cells #[.int .i64 (x), .int .i64 (y), .int .i64 (z)] 33) (.cells #[.int .i64 (k)] 3) (.cells #[.int .i64 (0), .int .i64 (0), .int .i64 (0)] 33)
  obtain ⟨b0, b1, b2⟩ := blk3 w #[.int .i64 (x), .int .i64 (y), .int .i64 (z)] #[.int .i64 (k)] #[.int .i64 (0), .int .i64 (0), .int .i64 (0)] 33 3 33
  go_enter Try.func30, Try.ntmps30
  go_wp2_with fail
  refine (H.out (w.heap.size + 1) _ (b1.cell 0) b1.lt).mono ?_
  generalize (((w.alloc (.cells #[.int .i64 (x), .int .i64 (y), .int .i64 (z)] 33)).alloc (.cells #[.int .i64 (k)] 3)).alloc (.cells #[.int .i64 (0), .int .i64 (0), .int .i64 (0)] 33)) = W0 at hB b0 b1 b2 ⊢
  have c0 := b0.cell
  have f0 := b0.frozen
  have l0 := b0.lt
  have c1 := b1.cell
  have f1 := b1.frozen
  have l1 := b1.lt
  have c2 := b2.cell
  have f2 := b2.frozen
  have l2 := b2.lt
  clear hmf H
  rintro e w1 ⟨rfl, hb⟩
  have hB := (by with_reducible first | exact b_keep hb hB | exact b_keep hb hB.drew)
  replace b0 : Blk w1 _ _ _ := (by with_reducible first | exact Blk.keep hb b0 | exact Blk.keep hb b0.drew)
  replace b1 : Blk w1 _ _ _ := (by with_reducible first | exact Blk.keep hb b1 | exact Blk.keep hb b1.drew)
  replace b2 : Blk w1 _ _ _ := (by with_reducible first | exact Blk.keep hb b2 | exact Blk.keep hb b2.drew)
  replace l0 := b0.lt
  replace l1 := b1.lt
  replace l2 := b2.lt
  replace c0 := b0.cell
  replace c1 := b1.cell
  replace c2 := b2.cell
  replace f0 := b0.frozen
  replace f1 := b1.frozen
  replace f2 := b2.frozen
  clear hb
  go_wp2
  exact bodyPost_ret (v := vec (k * x) (k * y) (k * z)) (by simp [results, Try.results30, go_sem, c2]) rfl ⟨rfl, ((hB.setCell (by simp; omega) _).setCell (by simp; omega) _).setCell (by simp; omega) _⟩
set_option maxHeartbeats 400000 in
theorem over1 (n k : Int) (p : Nat) (h0n : -1000000000000000000 ≤ n) (h1n : n ≤ 1000000000000000000) (w : World) (hc : w.cell? ⟨p, 0, none⟩ = some (.int .i64 k)) :
    Calls Try.prog 38 #[.int .i64 n, .pointer (some ⟨p, 0, none⟩)] w fun e w' => e = .returned (.int .i64 (fdZ n k)) ∧ w = w' := by
  have H := Lib.hid (floorI n k (by omega) (by omega))
  go_enter Try.func38, Try.ntmps38
  go_wp2_with (go_at_call 39; refine (H.out _).mono ?_; rintro e w' ⟨rfl, rfl⟩)
  go_ret
  exact ⟨rfl, rfl⟩
set_option maxHeartbeats 2000000 in
theorem each_over (x y z k : Int) (p : Nat) (h0x : -1000000000000000000 ≤ x) (h1x : x ≤ 1000000000000000000) (h0y : -1000000000000000000 ≤ y) (h1y : y ≤ 1000000000000000000) (h0z : -1000000000000000000 ≤ z) (h1z : z ≤ 1000000000000000000) (w : World) (hc : w.cell? ⟨p, 0, none⟩ = some (.int .i64 k)) (hp : p < w.heap.size) :
    Calls Try.prog 32 #[.agg #[.int .i64 (x), .int .i64 (y), .int .i64 (z)], .func (.func 38) #[] #[.pointer (some ⟨p, 0, none⟩)]] w
      fun e w' => e = .returned (vec (fdZ x k) (fdZ y k) (fdZ z k)) ∧ Below w.heap.size w w' := by
  have hp1 : p ≠ w.heap.size := by omega
  have hp2 : p ≠ w.heap.size + 1 := by omega
  have Hx := Lib.hid (fun (W : World) (H : W.cell? ⟨p, 0, none⟩ = some (.int .i64 k)) => over1 x k p h0x h1x W H)
  have Hy := Lib.hid (fun (W : World) (H : W.cell? ⟨p, 0, none⟩ = some (.int .i64 k)) => over1 y k p h0y h1y W H)
  have Hz := Lib.hid (fun (W : World) (H : W.cell? ⟨p, 0, none⟩ = some (.int .i64 k)) => over1 z k p h0z h1z W H)
  clear h0x h1x h0y h1y h0z h1z
  have g0 : ((w.alloc (.cells #[.int .i64 (x), .int .i64 (y), .int .i64 (z)] 33)).alloc (.cells #[.int .i64 (0), .int .i64 (0), .int .i64 (0)] 33)).cell? ⟨p, 0, none⟩ = some (.int .i64 k) := by
    rw [World.cell?_alloc_past _ _ _ (by simp; omega), World.cell?_alloc_past _ _ _ hp]; exact hc
  go_enter Try.func32, Try.ntmps32
  go_wp2
  go_region_held3 (fun w' => w'.cell? ⟨w.heap.size, 0, none⟩ = some (.int .i64 x) ∧ w'.cell? ⟨w.heap.size, 1, none⟩ = some (.int .i64 y) ∧ w'.cell? ⟨w.heap.size, 2, none⟩ = some (.int .i64 z) ∧ w'.cell? ⟨p, 0, none⟩ = some (.int .i64 k)) (first | exact ⟨by assumption, by assumption, by assumption, by assumption⟩ | go_keep)
    (first
      | (go_at_call_of 38 (Value.int .i64 x); refine (Hx.out _ ?_).mono ?_; (go_split_ands; assumption); rintro e w' ⟨rfl, rfl⟩)
      | (go_at_call_of 38 (Value.int .i64 y); refine (Hy.out _ ?_).mono ?_; (go_split_ands; assumption); rintro e w' ⟨rfl, rfl⟩)
      | (go_at_call_of 38 (Value.int .i64 z); refine (Hz.out _ ?_).mono ?_; (go_split_ands; assumption); rintro e w' ⟨rfl, rfl⟩))
  go_wp2
  exact bodyPost_ret (v := vec (fdZ x k) (fdZ y k) (fdZ z k)) (by simp [results, Try.results32, go_sem]) rfl ⟨rfl, (((Below.refl _ _).alloc (Nat.le_refl _) _).alloc (by simp) _).drew⟩
set_option maxHeartbeats 2000000 in
theorem over_any (x y z k : Int) (h0x : -1000000000000000000 ≤ x) (h1x : x ≤ 1000000000000000000) (h0y : -1000000000000000000 ≤ y) (h1y : y ≤ 1000000000000000000) (h0z : -1000000000000000000 ≤ z) (h1z : z ≤ 1000000000000000000) (w : World) :
    Calls Try.prog 31 #[.agg #[.int .i64 (x), .int .i64 (y), .int .i64 (z)], .int .i64 k] w
      fun e w' => e = .returned (vec (fdZ x k) (fdZ y k) (fdZ z k)) ∧ Below w.heap.size w w' := by
  have H := Lib.hid (fun (p : Nat) (W : World) (hc : W.cell? ⟨p, 0, none⟩ = some (.int .i64 k)) (hp : p < W.heap.size) => each_over x y z k p h0x h1x h0y h1y h0z h1z W hc hp)
  clear h0x h1x h0y h1y h0z h1z
  have hmf : ∀ (fn : Fn) (first cap : Array Value) (w : World), (Instr.makeFunc fn first cap).run Try.prog w = .ok (.func fn first cap) w := fun _ _ _ _ => rfl
  have hB := below3 w (.cells #[.int .i64 (x), .int .i64 (y), .int .i64 (z)] 33) (.cells #[.int .i64 (k)] 3) (.cells #[.int .i64 (0), .int .i64 (0), .int .i64 (0)] 33)
  obtain ⟨b0, b1, b2⟩ := blk3 w #[.int .i64 (x), .int .i64 (y), .int .i64 (z)] #[.int .i64 (k)] #[.int .i64 (0), .int .i64 (0), .int .i64 (0)] 33 3 33
  go_enter Try.func31, Try.ntmps31
  go_wp2_with fail
  refine (H.out (w.heap.size + 1) _ (b1.cell 0) b1.lt).mono ?_
  generalize (((w.alloc (.cells #[.int .i64 (x), .int .i64 (y), .int .i64 (z)] 33)).alloc (.cells #[.int .i64 (k)] 3)).alloc (.cells #[.int .i64 (0), .int .i64 (0), .int .i64 (0)] 33)) = W0 at hB b0 b1 b2 ⊢
  have c0 := b0.cell
  have f0 := b0.frozen
  have l0 := b0.lt
  have c1 := b1.cell
  have f1 := b1.frozen
  have l1 := b1.lt
  have c2 := b2.cell
  have f2 := b2.frozen
  have l2 := b2.lt
  clear hmf H
  rintro e w1 ⟨rfl, hb⟩
  have hB := (by with_reducible first | exact b_keep hb hB | exact b_keep hb hB.drew)
  replace b0 : Blk w1 _ _ _ := (by with_reducible first | exact Blk.keep hb b0 | exact Blk.keep hb b0.drew)
  replace b1 : Blk w1 _ _ _ := (by with_reducible first | exact Blk.keep hb b1 | exact Blk.keep hb b1.drew)
  replace b2 : Blk w1 _ _ _ := (by with_reducible first | exact Blk.keep hb b2 | exact Blk.keep hb b2.drew)
  replace l0 := b0.lt
  replace l1 := b1.lt
  replace l2 := b2.lt
  replace c0 := b0.cell
  replace c1 := b1.cell
  replace c2 := b2.cell
  replace f0 := b0.frozen
  replace f1 := b1.frozen
  replace f2 := b2.frozen
  clear hb
  go_wp2
  exact bodyPost_ret (v := vec (fdZ x k) (fdZ y k) (fdZ z k)) (by simp [results, Try.results31, go_sem, c2]) rfl ⟨rfl, ((hB.setCell (by simp; omega) _).setCell (by simp; omega) _).setCell (by simp; omega) _⟩
end Go.Proofs.Ytadjnmldgnaabaa
