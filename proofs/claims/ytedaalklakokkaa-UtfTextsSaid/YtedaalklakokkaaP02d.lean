/- Encoding in chapter 02: both ways the same bytes. No condition but those that each names. -/
import Derived.Test.YtedaalklakokkaaP02c
import Derived.Test.YtedaalklakokkaaPAllx5
namespace Go.Proofs.Ytedaalklakokkaa.P02
open Go.RowKit Go.Proofs.Ytedaalklakokkaa.PAll Go.Proofs.Ytedaalklakokkaa.By Go.Proofs.YtedaalklakokkaaW.PrintWords Go.Proofs.YtedaalklakokkaaW.PrintLast
set_option linter.unusedVariables false

theorem refscalar (r : Int) : monikerref02_Scalar.f r = some (scaB r) := by
  unfold monikerref02_Scalar.f scaB
  by_cases a : r ≥ 0
  · rw [if_pos a]
    by_cases b : r < 55296
    · rw [if_pos b, decide_eq_true (by omega)]
    · rw [if_neg b]
      by_cases c : r ≥ 57344
      · rw [if_pos c]; congr 1; rw [decide_eq_decide]; omega
      · rw [if_neg c, decide_eq_false (by omega)]
  · rw [if_neg a, if_neg (by omega), decide_eq_false (by omega)]
theorem uscalar (r : Int) : utf_Scalar.f r = some (scaB r) := scalar_eq r
theorem refencode (r : Int) (h : scaB r = true) : ∃ b, monikerref02_Encode.f r = some b ∧ bytesOf b = encI r := by
  unfold monikerref02_Encode.f encI
  rw [refscalar, h]
  rw [sca_iff] at h
  have d1 : ∀ c : Int, Int.tdiv r c = r / c := fun c => Int.tdiv_eq_ediv_of_nonneg (by omega)
  have m1 : ∀ c : Int, Int.tmod r c = r % c := fun c => Int.tmod_eq_emod_of_nonneg (by omega)
  have w1 : ∀ c : Int, c = 64 ∨ c = 4096 ∨ c = 262144 → wrap64 (r / c) = r / c ∧ 0 ≤ r / c := by
    intro c hc
    rcases hc with rfl | rfl | rfl <;> exact ⟨by unfold wrap64; omega, by omega⟩
  have m2 : ∀ c : Int, c = 64 ∨ c = 4096 ∨ c = 262144 → Int.tmod (r / c) 64 = r / c % 64 := by
    intro c hc
    skip
    exact Int.tmod_eq_emod_of_nonneg (w1 c hc).2
  simp only [d1, m1, Option.bind_some, if_true, m2 64 (by simp), m2 4096 (by simp), (w1 64 (by simp)).1, (w1 4096 (by simp)).1, (w1 262144 (by simp)).1]
  have fin : ∀ (l m : List Int), l = m → (∀ x ∈ m, 0 ≤ x ∧ x ≤ 255) → ∃ b, some (strOfNums l) = some b ∧ bytesOf b = m := by
    intro l m e hm
    subst e
    exact ⟨_, rfl, bytes_str _ hm⟩
  by_cases c1 : r < 128
  · simp only [c1, if_true]
    exact fin _ _ (by congr 1; omega) (by intro x hx; simp at hx; omega)
  by_cases c2 : r < 2048
  · simp only [c1, c2, if_true, if_false]
    refine fin _ _ ?_ (by intro x hx; simp at hx; omega)
    rw [w64 (by omega) (by omega), w64 (by omega) (by omega)]
    congr 1; omega
    congr 1; omega
  by_cases c3 : r < 65536
  · simp only [c1, c2, c3, if_true, if_false]
    refine fin _ _ ?_ (by intro x hx; simp at hx; omega)
    rw [w64 (by omega) (by omega), w64 (by omega) (by omega), w64 (by omega) (by omega)]
    congr 1; omega
    congr 1; omega
    congr 1; omega
  · simp only [c1, c2, c3, if_false]
    refine fin _ _ ?_ (by intro x hx; simp at hx; omega)
    rw [w64 (by omega) (by omega), w64 (by omega) (by omega), w64 (by omega) (by omega), w64 (by omega) (by omega)]
    congr 1; omega
    congr 1; omega
    congr 1; omega
    congr 1; omega
theorem refencode_no (r : Int) (h : scaB r = false) : monikerref02_Encode.f r = some ⟨#[]⟩ := by
  unfold monikerref02_Encode.f
  rw [refscalar, h]
  rfl
theorem uencode_no (r : Int) (h : scaB r = false) : utf_Encode.f r = some ⟨#[]⟩ := by
  unfold utf_Encode.f
  rw [h]; rfl
end Go.Proofs.Ytedaalklakokkaa.P02
