/- The pure law TupleSplits: any bytes are split into the components that the document says; these fit, and joined they are the bytes. Condition: the text is within the form's reach. -/
import Derived.Test.YtgccggbokphibaaPSplx9
import Derived.Test.YtgccggbokphibaaP20eS
namespace Go.Proofs.Ytgccggbokphibaa.Pure
open Go.RowKit Go.Proofs.Ytgccggbokphibaa.PSpl Go.Proofs.Ytgccggbokphibaa.By Go.Proofs.Ytgccggbokphibaa.P20 Go.Proofs.YtgccggbokphibaaW.PrintWords Go.Proofs.YtgccggbokphibaaW.PrintLast
set_option linter.unusedVariables false

theorem TupleSplits : monikerlaw20_TupleSplits.Pure := by
  intro a0 _
  refine Ev.rounds (g := fun k => monikerlaw20_TupleSplits.f k a0) ?_
  unfold monikerlaw20_TupleSplits.f
  by_cases h0 : (a0.size : Int) > 300
  · simp only [h0, if_true]
    exact Ev.bind awake_ev (Ev.now _)
  simp only [h0, if_false]
  have hs : a0.size ≤ 300 := by omega
  refine Ev.bind (Split_ev a0 (by omega)) (Ev.bind (refSplit_ev a0 (by omega)) ?_)
  obtain ⟨l, hl⟩ : ∃ l, l = bytesOf a0 := ⟨_, rfl⟩
  have hlen : l.length ≤ 300 := by rw [hl, bytesOf_length]; exact hs
  have hB : Byt l := by rw [hl]; exact Byt.of a0
  have hj := join_split l
  have hf := fits_split l
  rw [← hl]
  obtain ⟨y, hy⟩ : ∃ y, y = split l := ⟨_, rfl⟩
  rw [← hy] at hj hf ⊢
  obtain ⟨y0, y1, y2, y3, y4, y5, y6, y7⟩ := y
  simp only at hj hf
  have hc : (∀ c ∈ y0, c ∈ l) ∧ (∀ c ∈ y2, c ∈ l) ∧ (∀ c ∈ y3, c ∈ l) ∧ (∀ c ∈ y5, c ∈ l) ∧ (∀ c ∈ y7, c ∈ l) ∧ y0.length ≤ l.length ∧ y2.length ≤ l.length ∧ y3.length ≤ l.length ∧ y5.length ≤ l.length ∧ y7.length ≤ l.length := parts_in y0 y1 y2 y3 y4 y5 y6 y7 l hj hf
  obtain ⟨c0, c2, c3, c5, c7, n0, n2, n3, n5, n7⟩ := hc
  have b0 : Byt y0 := fun x hx => hB x (c0 x hx)
  have b2 : Byt y2 := fun x hx => hB x (c2 x hx)
  have b3 : Byt y3 := fun x hx => hB x (c3 x hx)
  have b5 : Byt y5 := fun x hx => hB x (c5 x hx)
  have b7 : Byt y7 := fun x hx => hB x (c7 x hx)
  have s8 := (same8 (toT (y0, y1, y2, y3, y4, y5, y6, y7)) (toT (y0, y1, y2, y3, y4, y5, y6, y7))).2 rfl
  simp only [s8, if_true]
  have hJ := Join_ev (strOfNums y0) y1 (strOfNums y2) (strOfNums y3) y4 (strOfNums y5) y6 (strOfNums y7) (by rw [S_size]; omega) (by rw [S_size]; omega) (by rw [S_size]; omega) (by rw [S_size]; omega) (by rw [S_size]; omega)
  unfold joinT at hJ
  rw [B_S b0, B_S b2, B_S b3, B_S b5, B_S b7, hj, hl, S_B] at hJ
  have hF := Fits_ev (strOfNums y0) y1 (strOfNums y2) (strOfNums y3) y4 (strOfNums y5) y6 (strOfNums y7) (by rw [S_size]; omega) (by rw [S_size]; omega) (by rw [S_size]; omega) (by rw [S_size]; omega) (by rw [S_size]; omega)
  rw [B_S b0, B_S b2, B_S b3, B_S b5, B_S b7, (fitsB_iff _ _ _ _ _ _ _ _).2 hf] at hF
  refine Ev.bind hJ ?_
  simp only [if_true]
  refine Ev.bind hF ?_
  simp only [if_true]
  exact Ev.bind awake_ev (Ev.now _)
end Go.Proofs.Ytgccggbokphibaa.Pure
