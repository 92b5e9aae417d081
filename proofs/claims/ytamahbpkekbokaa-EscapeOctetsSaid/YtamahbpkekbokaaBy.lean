/- Plain facts on texts as lists of byte values. No condition but those that each names. -/
import Derived.Test.YtamahbpkekbokaaWWords
import Derived.Test.YtamahbpkekbokaaWLast
import Derived.Lib.Strings
import Derived.Lib.Strings
namespace Go.Proofs.Ytamahbpkekbokaa.By
open Go.RowKit Go.Proofs.YtamahbpkekbokaaW.PrintWords Go.Proofs.YtamahbpkekbokaaW.PrintLast
set_option linter.unusedVariables false

theorem bytes_range (s : ByteArray) : ∀ x ∈ bytesOf s, 0 ≤ x ∧ x ≤ 255 := by
  intro x hx
  unfold bytesOf at hx
  obtain ⟨b, _, rfl⟩ := List.mem_map.1 hx
  have := b.toNat_lt
  omega
theorem bytes_str (l : List Int) (h : ∀ x ∈ l, 0 ≤ x ∧ x ≤ 255) : bytesOf (strOfNums l) = l := by
  unfold bytesOf
  rw [strOfNums_data, List.map_map]
  conv => rhs; rw [← List.map_id l]
  refine List.map_congr_left fun x hx => ?_
  have := h x hx
  simp only [Function.comp, id]
  have e : (UInt8.ofNat x.toNat).toNat = x.toNat := by
    rw [UInt8.toNat_ofNat']
    exact Nat.mod_eq_of_lt (by omega)
  rw [e]
  omega
theorem bytes_inj {a b : ByteArray} (h : bytesOf a = bytesOf b) : a = b := by
  have e : a.data.toList = b.data.toList := by
    unfold bytesOf at h
    refine List.map_inj_right (f := fun b : UInt8 => (b.toNat : Int)) (fun x y hxy => ?_) |>.1 h
    have : x.toNat = y.toNat := by omega
    exact UInt8.toNat_inj.1 this
  cases a; cases b
  simp only at e
  congr 1
  exact Array.toList_inj.1 e
theorem str_bytes (s : ByteArray) : strOfNums (bytesOf s) = s := bytes_inj (bytes_str _ (bytes_range s))
theorem toList_iff (a b : ByteArray) : a.toList = b.toList ↔ bytesOf a = bytesOf b := by
  rw [Lib.toList_data, Lib.toList_data]
  constructor
  · intro h; unfold bytesOf; rw [h]
  · intro h; rw [bytes_inj h]
theorem toList_beq (a b : ByteArray) : (a.toList == b.toList) = decide (bytesOf a = bytesOf b) := by
  rw [Bool.eq_iff_iff, beq_iff_eq, decide_eq_true_iff, toList_iff]
theorem str_size (l : List Int) : (strOfNums l).size = l.length := strOfNums_size l
theorem bytes_extract (s : ByteArray) (a b : Nat) : bytesOf (s.extract a b) = ((bytesOf s).drop a).take (b - a) := by
  unfold bytesOf
  rw [Lib.extract_data, List.map_take, List.map_drop]
theorem bytes_append (a b : ByteArray) : bytesOf (a ++ b) = bytesOf a ++ bytesOf b := by
  unfold bytesOf
  rw [show (a ++ b).data.toList = a.data.toList ++ b.data.toList by simp [ByteArray.data_append], List.map_append]
theorem bt_getD (s : ByteArray) (i : Nat) : bt s i = (bytesOf s).getD i 0 := by
  rw [← rd_bytesOf]; rfl
theorem bytes_empty {s : ByteArray} : bytesOf s = [] ↔ s.size = 0 := by
  rw [← bytesOf_length, List.length_eq_zero_iff]
end Go.Proofs.Ytamahbpkekbokaa.By
