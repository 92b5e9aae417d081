/- Plain facts on the printed functions of chapter 01: letters' cases. No condition but those that each names. -/
import Derived.Test.YtpkfabbapccdcaaOct
import Derived.Test.YtpkfabbapccdcaaBy
import Derived.Test.YtpkfabbapccdcaaPAllx
namespace Go.Proofs.Ytpkfabbapccdcaa.P01b
open Go.RowKit Go.Proofs.Ytpkfabbapccdcaa.PAll Go.Proofs.Ytpkfabbapccdcaa.Oct Go.Proofs.Ytpkfabbapccdcaa.By Go.Proofs.YtpkfabbapccdcaaW.PrintWords Go.Proofs.YtpkfabbapccdcaaW.PrintLast
set_option linter.unusedVariables false

theorem lowI_range (b : Int) (h : 0 ≤ b ∧ b ≤ 255) : 0 ≤ lowI b ∧ lowI b ≤ 255 := by unfold lowI; split <;> omega
theorem map_range (f : Int → Int) (hf : ∀ b : Int, 0 ≤ b ∧ b ≤ 255 → 0 ≤ f b ∧ f b ≤ 255) (s : ByteArray) : ∀ x ∈ (bytesOf s).map f, 0 ≤ x ∧ x ≤ 255 := by
  intro x hx
  obtain ⟨y, hy, rfl⟩ := List.mem_map.1 hx
  exact hf y (bytes_range s y hy)
theorem low_bytes (s : ByteArray) : bytesOf (strOfNums ((bytesOf s).map lowI)) = (bytesOf s).map lowI := bytes_str _ (map_range lowI lowI_range s)
theorem Lower_eq (s : ByteArray) (h : s.size ≤ 140737488355328) : octet_Lower.f s = some (strOfNums ((bytesOf s).map lowI)) := by
  unfold octet_Lower.f; rw [if_pos h]
theorem highI_range (b : Int) (h : 0 ≤ b ∧ b ≤ 255) : 0 ≤ highI b ∧ highI b ≤ 255 := by unfold highI; split <;> omega
theorem high_bytes (s : ByteArray) : bytesOf (strOfNums ((bytesOf s).map highI)) = (bytesOf s).map highI := bytes_str _ (map_range highI highI_range s)
theorem Upper_eq (s : ByteArray) (h : s.size ≤ 140737488355328) : octet_Upper.f s = some (strOfNums ((bytesOf s).map highI)) := by
  unfold octet_Upper.f; rw [if_pos h]

theorem mem_upper (b : Int) : b ∈ bytesOf (⟨#[65, 66, 67, 68, 69, 70, 71, 72, 73, 74, 75, 76, 77, 78, 79, 80, 81, 82, 83, 84, 85, 86, 87, 88, 89, 90]⟩ : ByteArray) ↔ 65 ≤ b ∧ b ≤ 90 := by
  rw [show bytesOf (⟨#[65, 66, 67, 68, 69, 70, 71, 72, 73, 74, 75, 76, 77, 78, 79, 80, 81, 82, 83, 84, 85, 86, 87, 88, 89, 90]⟩ : ByteArray) = [65, 66, 67, 68, 69, 70, 71, 72, 73, 74, 75, 76, 77, 78, 79, 80, 81, 82, 83, 84, 85, 86, 87, 88, 89, 90] from rfl]
  simp only [List.mem_cons, List.not_mem_nil, or_false]
  omega
theorem mem_lower (b : Int) : b ∈ bytesOf (⟨#[97, 98, 99, 100, 101, 102, 103, 104, 105, 106, 107, 108, 109, 110, 111, 112, 113, 114, 115, 116, 117, 118, 119, 120, 121, 122]⟩ : ByteArray) ↔ 97 ≤ b ∧ b ≤ 122 := by
  rw [show bytesOf (⟨#[97, 98, 99, 100, 101, 102, 103, 104, 105, 106, 107, 108, 109, 110, 111, 112, 113, 114, 115, 116, 117, 118, 119, 120, 121, 122]⟩ : ByteArray) = [97, 98, 99, 100, 101, 102, 103, 104, 105, 106, 107, 108, 109, 110, 111, 112, 113, 114, 115, 116, 117, 118, 119, 120, 121, 122] from rfl]
  simp only [List.mem_cons, List.not_mem_nil, or_false]
  omega
theorem snoc_take (s : ByteArray) (i : Nat) (h : i < s.size) (f : Int → Int) : ((bytesOf s).take i).map f ++ [f (bt s i)] = ((bytesOf s).take (i + 1)).map f := by
  have hl : i < (bytesOf s).length := by rw [bytesOf_length]; exact h
  have e : bt s i = (bytesOf s)[i] := by rw [bt_getD]; simp [List.getD_eq_getElem?_getD, hl]
  rw [List.take_succ_eq_append_getElem hl, List.map_append, e]; rfl

theorem refLower_from (s : ByteArray) (hs : s.size ≤ 140737488351232) : ∀ i : Nat, i ≤ s.size → Ev (fun k => monikerref01_Lower.l0 k s (((bytesOf s).take i).map lowI) (i : Int)) (strOfNums ((bytesOf s).map lowI)) := by
  apply from_end
  · refine Ev.step (f := fun k => some (strOfNums ((bytesOf s).map lowI))) (fun k => ?_) (Ev.now _)
    simp only [monikerref01_Lower.l0]; rw [if_neg (by omega), List.take_of_length_le (by rw [bytesOf_length]; exact Nat.le_refl _)]
  · intro i hi ih
    have hb := bt_range s i
    have hl : (((bytesOf s).take i).map lowI).length = i := by rw [List.length_map, List.length_take, bytesOf_length]; omega
    rw [← snoc_take s i hi] at ih
    have hI := In_ev (bt s i) (⟨#[65, 66, 67, 68, 69, 70, 71, 72, 73, 74, 75, 76, 77, 78, 79, 80, 81, 82, 83, 84, 85, 86, 87, 88, 89, 90]⟩ : ByteArray) (by decide)
    refine Ev.step (f := fun k => (monikerref01_In.f k (bt s i) (⟨#[65, 66, 67, 68, 69, 70, 71, 72, 73, 74, 75, 76, 77, 78, 79, 80, 81, 82, 83, 84, 85, 86, 87, 88, 89, 90]⟩ : ByteArray)).bind fun t => if t = true then monikerref01_Lower.l0 k s (((bytesOf s).take i).map lowI ++ [(bt s i + 32) % 256]) ((i + 1 : Nat) : Int) else monikerref01_Lower.l0 k s (((bytesOf s).take i).map lowI ++ [bt s i]) ((i + 1 : Nat) : Int)) (fun k => ?_) ?_
    · simp only [monikerref01_Lower.l0]; rw [if_pos (by omega), if_pos (by omega), if_pos (by omega), if_pos (by omega), w64 (by omega) (by omega)]; rfl
    · refine Ev.bind (f := fun k t => if t = true then monikerref01_Lower.l0 k s (((bytesOf s).take i).map lowI ++ [(bt s i + 32) % 256]) ((i + 1 : Nat) : Int) else monikerref01_Lower.l0 k s (((bytesOf s).take i).map lowI ++ [bt s i]) ((i + 1 : Nat) : Int)) hI ?_
      by_cases m : 65 ≤ bt s i ∧ bt s i ≤ 90
      · simp only [(mem_upper (bt s i)).2 m, decide_true, if_true]
        rw [show (bt s i + 32) % 256 = lowI (bt s i) by unfold lowI; rw [if_pos m]; omega]; exact ih
      · have m' : ¬ _ := fun q => m ((mem_upper (bt s i)).1 q)
        simp only [m', decide_false, if_false, Bool.false_eq_true]
        rw [show lowI (bt s i) = bt s i by unfold lowI; rw [if_neg m]] at ih; exact ih
theorem refLower_ev (s : ByteArray) (hs : s.size ≤ 140737488351232) : Ev (fun k => monikerref01_Lower.f k s) (strOfNums ((bytesOf s).map lowI)) := by
  have := refLower_from s hs 0 (Nat.zero_le _)
  simpa [monikerref01_Lower.f] using this
theorem refUpper_from (s : ByteArray) (hs : s.size ≤ 140737488351232) : ∀ i : Nat, i ≤ s.size → Ev (fun k => monikerref01_Upper.l0 k s (((bytesOf s).take i).map highI) (i : Int)) (strOfNums ((bytesOf s).map highI)) := by
  apply from_end
  · refine Ev.step (f := fun k => some (strOfNums ((bytesOf s).map highI))) (fun k => ?_) (Ev.now _)
    simp only [monikerref01_Upper.l0]; rw [if_neg (by omega), List.take_of_length_le (by rw [bytesOf_length]; exact Nat.le_refl _)]
  · intro i hi ih
    have hb := bt_range s i
    have hl : (((bytesOf s).take i).map highI).length = i := by rw [List.length_map, List.length_take, bytesOf_length]; omega
    rw [← snoc_take s i hi] at ih
    have hI := In_ev (bt s i) (⟨#[97, 98, 99, 100, 101, 102, 103, 104, 105, 106, 107, 108, 109, 110, 111, 112, 113, 114, 115, 116, 117, 118, 119, 120, 121, 122]⟩ : ByteArray) (by decide)
    refine Ev.step (f := fun k => (monikerref01_In.f k (bt s i) (⟨#[97, 98, 99, 100, 101, 102, 103, 104, 105, 106, 107, 108, 109, 110, 111, 112, 113, 114, 115, 116, 117, 118, 119, 120, 121, 122]⟩ : ByteArray)).bind fun t => if t = true then monikerref01_Upper.l0 k s (((bytesOf s).take i).map highI ++ [(bt s i - 32) % 256]) ((i + 1 : Nat) : Int) else monikerref01_Upper.l0 k s (((bytesOf s).take i).map highI ++ [bt s i]) ((i + 1 : Nat) : Int)) (fun k => ?_) ?_
    · simp only [monikerref01_Upper.l0]; rw [if_pos (by omega), if_pos (by omega), if_pos (by omega), if_pos (by omega), w64 (by omega) (by omega)]; rfl
    · refine Ev.bind (f := fun k t => if t = true then monikerref01_Upper.l0 k s (((bytesOf s).take i).map highI ++ [(bt s i - 32) % 256]) ((i + 1 : Nat) : Int) else monikerref01_Upper.l0 k s (((bytesOf s).take i).map highI ++ [bt s i]) ((i + 1 : Nat) : Int)) hI ?_
      by_cases m : 97 ≤ bt s i ∧ bt s i ≤ 122
      · simp only [(mem_lower (bt s i)).2 m, decide_true, if_true]
        rw [show (bt s i - 32) % 256 = highI (bt s i) by unfold highI; rw [if_pos m]; omega]; exact ih
      · have m' : ¬ _ := fun q => m ((mem_lower (bt s i)).1 q)
        simp only [m', decide_false, if_false, Bool.false_eq_true]
        rw [show highI (bt s i) = bt s i by unfold highI; rw [if_neg m]] at ih; exact ih
theorem refUpper_ev (s : ByteArray) (hs : s.size ≤ 140737488351232) : Ev (fun k => monikerref01_Upper.f k s) (strOfNums ((bytesOf s).map highI)) := by
  have := refUpper_from s hs 0 (Nat.zero_le _)
  simpa [monikerref01_Upper.f] using this
end Go.Proofs.Ytpkfabbapccdcaa.P01b
