/- Plain facts on the printed functions of octet and monikerref01: what each answers. No condition but those that each names. -/
import Derived.Test.YtgccggbokphibaaPGuax4
import Derived.Test.YtgccggbokphibaaBy
namespace Go.Proofs.Ytgccggbokphibaa.Oct
open Go.RowKit Go.Proofs.Ytgccggbokphibaa.PGua Go.Proofs.YtgccggbokphibaaW.PrintWords Go.Proofs.YtgccggbokphibaaW.PrintLast
set_option linter.unusedVariables false

theorem w64 {x : Int} (h1 : -9223372036854775808 ≤ x) (h2 : x ≤ 9223372036854775807) : wrap64 x = x := by unfold wrap64; omega
theorem drop_bytes (s : ByteArray) (i : Nat) (h : i < s.size) : (bytesOf s).drop i = bt s i :: (bytesOf s).drop (i + 1) := by
  have hl : i < (bytesOf s).length := by rw [bytesOf_length]; exact h
  rw [List.drop_eq_getElem_cons hl]
  congr 1
  rw [← rd_bytesOf]
  simp [rd, List.getD_eq_getElem?_getD, hl]
theorem drop_end (s : ByteArray) : (bytesOf s).drop s.size = [] := by
  rw [List.drop_eq_nil_iff, bytesOf_length]; exact Nat.le_refl _
/-- Down from the end of a text. -/
theorem from_end {p : Nat → Prop} (n : Nat) (h0 : p n) (hs : ∀ i, i < n → p (i + 1) → p i) : ∀ i, i ≤ n → p i := by
  intro i hi
  obtain ⟨d, hd⟩ : ∃ d, n - i = d := ⟨_, rfl⟩
  induction d generalizing i with
  | zero => obtain rfl : i = n := by omega
            exact h0
  | succ d ih => exact hs i (by omega) (ih (i + 1) (by omega) (by omega))

theorem In_from (b : Int) (s : ByteArray) (hs : s.size ≤ 140737488355328) : ∀ i : Nat, i ≤ s.size → Ev (fun k => monikerref01_In.l0 k b s (i : Int)) (decide (b ∈ (bytesOf s).drop i)) := by
  apply from_end
  · refine Ev.step (f := fun k => some false) (fun k => ?_) ?_
    · simp only [monikerref01_In.l0]; rw [if_neg (by omega)]
    · rw [drop_end]; exact Ev.now _
  · intro i hi ih
    rw [drop_bytes s i hi]
    by_cases hb : bt s i = b
    · refine Ev.step (f := fun k => some true) (fun k => ?_) ?_
      · simp only [monikerref01_In.l0]; rw [if_pos (by omega), if_pos (by omega), if_pos hb]
      · rw [hb]; simp only [List.mem_cons, true_or, decide_true]; exact Ev.now _
    · refine Ev.step (f := fun k => monikerref01_In.l0 k b s ((i + 1 : Nat) : Int)) (fun k => ?_) ?_
      · simp only [monikerref01_In.l0]; rw [if_pos (by omega), if_pos (by omega), if_neg hb, w64 (by omega) (by omega)]; rfl
      · have e : (b ∈ bt s i :: (bytesOf s).drop (i + 1)) ↔ b ∈ (bytesOf s).drop (i + 1) := by simp [Ne.symm hb]
        rw [decide_eq_decide.2 e]; exact ih
theorem In_ev (b : Int) (s : ByteArray) (hs : s.size ≤ 140737488355328) : Ev (fun k => monikerref01_In.f k b s) (decide (b ∈ bytesOf s)) := by
  have := In_from b s hs 0 (Nat.zero_le _)
  simpa [monikerref01_In.f] using this

end Go.Proofs.Ytgccggbokphibaa.Oct
