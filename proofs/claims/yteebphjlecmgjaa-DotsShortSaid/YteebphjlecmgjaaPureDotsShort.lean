import Derived.Test.YteebphjlecmgjaaP23
namespace Go.Proofs.Yteebphjlecmgjaa.Pure
open Go.RowKit Go.Proofs.Yteebphjlecmgjaa.PSho Go.Proofs.Yteebphjlecmgjaa.By Go.Proofs.Yteebphjlecmgjaa.P23 Go.Proofs.YteebphjlecmgjaaW.PrintWords Go.Proofs.YteebphjlecmgjaaW.PrintLast

theorem remL_byt : ∀ (f : Nat) (out rest : List Int), (∀ x ∈ out, 0 ≤ x ∧ x ≤ 255) → (∀ x ∈ rest, 0 ≤ x ∧ x ≤ 255) → ∀ x ∈ remL f out rest, 0 ≤ x ∧ x ≤ 255
  | 0, out, rest, h, _ => by unfold remL; exact h
  | f + 1, out, rest, h, h2 => by
    unfold remL
    by_cases he : rest = []
    · rw [if_pos he]; exact h
    rw [if_neg he]
    have hd : ∀ x ∈ rest.drop (pieceL rest).length, 0 ≤ x ∧ x ≤ 255 := fun x hx => h2 x (List.mem_of_mem_drop hx)
    have h47 : ∀ o : List Int, (∀ x ∈ o, 0 ≤ x ∧ x ≤ 255) → ∀ x ∈ (if rest.drop (pieceL rest).length = [] then o ++ [47] else o), 0 ≤ x ∧ x ≤ 255 := by
      intro o ho x hx
      split at hx
      · rcases List.mem_append.1 hx with hx | hx
        · exact ho x hx
        · simp at hx; omega
      · exact ho x hx
    split
    · exact remL_byt f _ _ (h47 _ (fun x hx => h x (List.mem_of_mem_take hx))) hd
    split
    · exact remL_byt f _ _ (h47 _ h) hd
    · refine remL_byt f _ _ ?_ hd
      intro x hx
      rcases List.mem_append.1 hx with hx | hx
      · exact h x hx
      · have pf := piece_facts rest 0 (by cases rest with | nil => exact absurd rfl he | cons c t => simp)
        have e := pf.2.2.2.2
        rw [List.drop_zero] at e
        rw [e] at hx
        exact h2 x (List.mem_of_mem_take hx)
theorem DotsShort : monikerlaw23_DotsShort.Pure := by
  intro s _
  refine Ev.rounds ?_
  unfold monikerlaw23_DotsShort.f
  by_cases c : (s.size : Int) > 300
  · simp only [c, if_true]
    exact Ev.bind awake_ev (Ev.now _)
  simp only [c, if_false]
  obtain ⟨q, h1, h2, h3⟩ := front_ev s.size s (Nat.le_refl _)
  have hr : Ev (fun k => dots_Remove.f k s) (strOfNums (remL (q.size + 1) [] (bytesOf q))) := by
    unfold dots_Remove.f
    refine Ev.bind h1 ?_
    simp only [show q.size ≤ 140737488355328 by omega, if_true]
    exact Ev.now _
  refine Ev.bind hr ?_
  have hl := remL_len (q.size + 1) [] (bytesOf q)
  rw [bytesOf_length, List.length_nil] at hl
  have hsz : (strOfNums (remL (q.size + 1) [] (bytesOf q))).size = (remL (q.size + 1) [] (bytesOf q)).length := str_size _
  have hby := bytes_str _ (remL_byt (q.size + 1) [] (bytesOf q) (by intro x hx; cases hx) (bytes_range q))
  generalize hR : remL (q.size + 1) [] (bytesOf q) = R at *
  have n1 : ¬ ((strOfNums R).size : Int) > (s.size : Int) := by omega
  simp only [n1, if_false]
  by_cases d : (s.size : Int) > 0
  · simp only [d, if_true]
    by_cases e : bt s 0 = 47
    · simp only [e, if_true]
      have hq := h3 (by omega) e
      subst hq
      have hs : sl (bytesOf q) := by
        have e2 := bt_getD q 0
        rw [show ((0 : Nat) : Int) = 0 from rfl, e] at e2
        cases hb : bytesOf q with
        | nil => rw [bytes_empty] at hb; omega
        | cons a t => rw [hb] at e2; exact ⟨t, by simp at e2; rw [e2]⟩
      obtain ⟨t, ht⟩ := remL_sl (q.size + 1) [] (bytesOf q) (.inr ⟨rfl, .inr hs⟩) (by rw [bytesOf_length, List.length_nil]; omega) (.inr hs) (by rw [bytesOf_length]; omega)
      rw [hR] at ht
      have h0 : (strOfNums R).size ≠ 0 := by rw [hsz, ht]; simp
      have hb0 : bt (strOfNums R) 0 = 47 := by
        have e2 := bt_getD (strOfNums R) 0
        rw [show ((0 : Nat) : Int) = 0 from rfl] at e2
        rw [e2, hby, ht]; rfl
      simp only [show ¬ ((strOfNums R).size : Int) = 0 by omega, show 0 < ((strOfNums R).size : Int) by omega, hb0, if_true, if_false]
      exact Ev.bind awake_ev (Ev.now _)
    · simp only [e, if_false]
      exact Ev.bind awake_ev (Ev.now _)
  · simp only [d, if_false]
    exact Ev.bind awake_ev (Ev.now _)

end Go.Proofs.Yteebphjlecmgjaa.Pure
