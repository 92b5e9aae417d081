/- Plain facts on the components of a text: they are parts of it. No condition but those that each names. -/
import Derived.Test.YtgccggbokphibaaP20dJ
namespace Go.Proofs.Ytgccggbokphibaa.P20
open Go.RowKit Go.Proofs.Ytgccggbokphibaa.PJoi Go.Proofs.Ytgccggbokphibaa.By Go.Proofs.Ytgccggbokphibaa.Oct Go.Proofs.YtgccggbokphibaaW.PrintWords Go.Proofs.YtgccggbokphibaaW.PrintLast
set_option linter.unusedVariables false

def Part (x l : List Int) : Prop := (∀ c ∈ x, c ∈ l) ∧ x.length ≤ l.length
theorem Part.refl (l : List Int) : Part l l := ⟨fun _ h => h, Nat.le_refl _⟩
theorem Part.trans {x y z : List Int} (h : Part x y) (k : Part y z) : Part x z := ⟨fun c hc => k.1 c (h.1 c hc), Nat.le_trans h.2 k.2⟩
theorem Part.nil (l : List Int) : Part [] l := ⟨fun c hc => (by cases hc), Nat.zero_le _⟩
theorem Part.left (a b : List Int) : Part a (a ++ b) := ⟨fun c hc => List.mem_append_left _ hc, by rw [List.length_append]; omega⟩
theorem Part.right (a b : List Int) : Part b (a ++ b) := ⟨fun c hc => List.mem_append_right _ hc, by rw [List.length_append]; omega⟩
theorem Part.tail (c : Int) (a : List Int) : Part a (c :: a) := ⟨fun x hx => List.mem_cons_of_mem _ hx, by simp⟩
theorem parts_in (sc : List Int) (ha : Bool) (au pa : List Int) (hq : Bool) (qu : List Int) (hf : Bool) (fr l : List Int) (hj : join sc ha au pa hq qu hf fr = l) (h : Fits sc ha au pa hq qu hf fr) :
    (∀ c ∈ sc, c ∈ l) ∧ (∀ c ∈ au, c ∈ l) ∧ (∀ c ∈ pa, c ∈ l) ∧ (∀ c ∈ qu, c ∈ l) ∧ (∀ c ∈ fr, c ∈ l) ∧ sc.length ≤ l.length ∧ au.length ≤ l.length ∧ pa.length ≤ l.length ∧ qu.length ≤ l.length ∧ fr.length ≤ l.length := by
  obtain ⟨e1, e2, e3, _⟩ := h
  have i5 : Part fr (j5 hf fr) := by
    cases hf with
    | true => exact Part.tail 35 fr
    | false => rw [e3 rfl]; exact Part.nil _
  have i4 : Part qu (j4 hq qu (j5 hf fr)) ∧ Part (j5 hf fr) (j4 hq qu (j5 hf fr)) := by
    cases hq with
    | true => exact ⟨(Part.left qu _).trans (Part.tail 63 _), (Part.right qu _).trans (Part.tail 63 _)⟩
    | false => rw [e2 rfl]; exact ⟨Part.nil _, Part.refl _⟩
  obtain ⟨R, hR⟩ : ∃ R, R = j4 hq qu (j5 hf fr) := ⟨_, rfl⟩
  rw [← hR] at i4
  have i2 : Part au (j2 ha au (pa ++ R)) ∧ Part (pa ++ R) (j2 ha au (pa ++ R)) := by
    cases ha with
    | true => exact ⟨((Part.left au _).trans (Part.tail 47 _)).trans (Part.tail 47 _), ((Part.right au _).trans (Part.tail 47 _)).trans (Part.tail 47 _)⟩
    | false => rw [e1 rfl]; exact ⟨Part.nil _, Part.refl _⟩
  have i1 : Part sc l ∧ Part (j2 ha au (pa ++ R)) l := by
    rw [← hj]
    unfold join
    rw [← hR]
    unfold j1
    split
    · exact ⟨Part.left sc _, (Part.tail 58 _).trans (Part.right sc _)⟩
    case isFalse h =>
      rw [Classical.not_not.1 h]
      exact ⟨Part.nil _, Part.refl _⟩
  have p3 := ((Part.left pa R).trans i2.2).trans i1.2
  have p4 := ((Part.right pa R).trans i2.2).trans i1.2
  have p5 := i4.1.trans p4
  have p7 := (i5.trans i4.2).trans p4
  have p2 := i2.1.trans i1.2
  exact ⟨i1.1.1, p2.1, p3.1, p5.1, p7.1, i1.1.2, p2.2, p3.2, p5.2, p7.2⟩
end Go.Proofs.Ytgccggbokphibaa.P20
