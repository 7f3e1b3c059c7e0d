/- Bytes made into strings: the conversion of a one-byte slice of the call's own; the bytes of a sum of strings. -/
import Derived.Test.YtnibknaemgpjdaaDoorProg
import Derived.Test.YtnibknaemgpjdaaDoorTxt
import Derived.WalkKit
import Derived.Laws.IdiomStrings
namespace Go.Proofs.YtnibknaemgpjdaaDoor
open Go Go.RowKit

theorem data_app (a b : ByteArray) : (a ++ b).data.toList = a.data.toList ++ b.data.toList := by
  simp
theorem size_app (a b : ByteArray) : (a ++ b).size = a.size + b.size := by
  rw [size_data, size_data, size_data, data_app, List.length_append]
theorem ret_str {a b : ByteArray} (h : a = b) : Ending.returned (.string a) = .returned (.string b) := by rw [h]
theorem byte_back (W : World) (x : Int) (d : Nat) (hx : x = (d : Int)) (hd : d < 256) :
    (convert 37 9 (.slice (some ⟨W.heap.size, 0, none⟩) 1 1)).run Tryd.prog (W.alloc (.cells #[.int .u8 x] 5)) = .ok (.string ⟨#[UInt8.ofNat d]⟩) (W.alloc (.cells #[.int .u8 x] 5)) := by
  subst hx
  have h := run_convert_bytes_back (P := Tryd.prog) (W.alloc (.cells #[.int .u8 (d : Int)] 5)) 37 9 5 ⟨W.heap.size, 0, none⟩ 1 [UInt8.ofNat d] Tryd.underlying37 Tryd.underlying5 Tryd.underlying9 (fun j hj => by
    obtain rfl : j = 0 := by simp at hj; omega
    have e : (UInt8.ofNat d).toNat = d := by simp; omega
    simp [Addr.add, e])
  simpa using h
theorem digit_back (W : World) (j : Nat) :
    (convert 37 9 (.slice (some ⟨W.heap.size, 0, none⟩) 1 1)).run Tryd.prog (W.alloc (.cells #[.int .u8 (48 + (j : Int) % 10)] 5)) = .ok (.string ⟨#[digC (j % 10)]⟩) (W.alloc (.cells #[.int .u8 (48 + (j : Int) % 10)] 5)) :=
  byte_back W _ (48 + j % 10) (by omega) (by omega)
theorem digit_back0 (W : World) (j : Nat) (hj : j < 10) :
    (convert 37 9 (.slice (some ⟨W.heap.size, 0, none⟩) 1 1)).run Tryd.prog (W.alloc (.cells #[.int .u8 (48 + (j : Int))] 5)) = .ok (.string ⟨#[digC j]⟩) (W.alloc (.cells #[.int .u8 (48 + (j : Int))] 5)) :=
  byte_back W _ (48 + j) (by omega) (by omega)
end Go.Proofs.YtnibknaemgpjdaaDoor
