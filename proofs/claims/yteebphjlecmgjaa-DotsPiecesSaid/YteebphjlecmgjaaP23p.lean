/- Plain facts on dots.Remove: how long it is, how it begins. No condition but those that each names. -/
import Derived.Test.YteebphjlecmgjaaPPiex4
import Derived.Test.YteebphjlecmgjaaBy
namespace Go.Proofs.Yteebphjlecmgjaa.P23
open Go.RowKit Go.Proofs.Yteebphjlecmgjaa.PPie Go.Proofs.Yteebphjlecmgjaa.By Go.Proofs.YteebphjlecmgjaaW.PrintWords Go.Proofs.YteebphjlecmgjaaW.PrintLast
set_option linter.unusedVariables false

theorem awake_ev : Ev (fun k => monikerlaw23_awake.f k) true := by
  refine Ev.of (fun k => monikerlaw23_awake.mono k) (k := 24) ?_
  decide +kernel
theorem piece_len (l : List Int) (h : l ≠ []) : 1 ≤ (pieceL l).length ∧ (pieceL l).length ≤ l.length := by
  cases l with
  | nil => exact absurd rfl h
  | cons c t =>
    have := (tw_facts (fun x => decide (x ≠ 47)) t).1
    simp only [pieceL, List.length_cons]
    omega
theorem remL_len : ∀ (f : Nat) (out rest : List Int), (remL f out rest).length ≤ out.length + rest.length
  | 0, out, rest => by unfold remL; omega
  | f + 1, out, rest => by
    unfold remL
    by_cases h : rest = []
    · rw [if_pos h]; omega
    rw [if_neg h]
    have hp := piece_len rest h
    have hd : (rest.drop (pieceL rest).length).length = rest.length - (pieceL rest).length := List.length_drop
    have ht : (out.take (ups out)).length ≤ out.length := by rw [List.length_take]; omega
    have key := fun o => remL_len f o (rest.drop (pieceL rest).length)
    split
    · refine Nat.le_trans (key _) ?_
      split
      · rw [List.length_append, List.length_singleton, hd]; omega
      · rw [hd]; omega
    split
    · refine Nat.le_trans (key _) ?_
      split
      · rw [List.length_append, List.length_singleton, hd]; omega
      · rw [hd]; omega
    · refine Nat.le_trans (key _) ?_
      rw [List.length_append, hd]; omega
/-- What is begun with a slash stays so. -/
def sl (l : List Int) : Prop := ∃ t, l = 47 :: t
theorem rest_sl (rest : List Int) (h : rest ≠ []) : rest.drop (pieceL rest).length = [] ∨ sl (rest.drop (pieceL rest).length) := by
  have pf := piece_facts rest 0 (by cases rest with | nil => exact absurd rfl h | cons c t => simp)
  have e : endL rest 0 = (pieceL rest).length := by unfold endL; rw [List.drop_zero, Nat.zero_add]
  rw [e] at pf
  by_cases hc : (pieceL rest).length < rest.length
  · right
    refine ⟨rest.drop ((pieceL rest).length + 1), ?_⟩
    rw [List.drop_eq_getElem_cons hc]
    have := pf.2.2.2.1 hc
    rw [List.getD_eq_getElem?_getD, List.getElem?_eq_getElem hc] at this
    simp at this
    rw [this]
  · left; exact List.drop_eq_nil_of_le (by omega)
theorem sl_app {a b : List Int} (h : sl a) : sl (a ++ b) := by
  obtain ⟨t, rfl⟩ := h; exact ⟨t ++ b, rfl⟩
theorem remL_sl : ∀ (f : Nat) (out rest : List Int), (sl out ∨ (out = [] ∧ (rest = [] ∨ sl rest))) → out.length + rest.length ≠ 0 → (rest = [] ∨ sl rest) → rest.length < f → sl (remL f out rest)
  | 0, out, rest, h, _, _, hf => by omega
  | f + 1, out, rest, h, h0, hr, hf => by
    unfold remL
    by_cases he : rest = []
    · rw [if_pos he]
      rcases h with h | ⟨h, _⟩
      · exact h
      · rw [h, he] at h0; exact absurd rfl h0
    rw [if_neg he]
    have hs : sl rest := hr.resolve_left he
    have hp := piece_len rest he
    have hx := rest_sl rest he
    have hd : (rest.drop (pieceL rest).length).length = rest.length - (pieceL rest).length := List.length_drop
    generalize hq : rest.drop (pieceL rest).length = r' at *
    have go : ∀ o : List Int, (sl o ∨ o = []) → sl (remL f (if r' = [] then o ++ [47] else o) r') := by
      intro o ho
      by_cases e : r' = []
      · rw [if_pos e]
        have so : sl (o ++ [47]) := by
          rcases ho with ho | rfl
          · exact sl_app ho
          · exact ⟨[], rfl⟩
        exact remL_sl f _ r' (.inl so) (by rw [List.length_append, List.length_singleton]; omega) hx (by omega)
      · rw [if_neg e]
        refine remL_sl f o r' ?_ ?_ hx (by omega)
        · rcases ho with ho | ho
          · exact .inl ho
          · exact .inr ⟨ho, hx⟩
        · have : r'.length ≠ 0 := fun e2 => e (List.length_eq_zero_iff.1 e2)
          omega
    have ho : sl out ∨ out = [] := h.imp_right (·.1)
    split
    · refine go _ ?_
      rcases ho with ⟨t, rfl⟩ | rfl
      · cases hu : ups (47 :: t) with
        | zero => exact .inr rfl
        | succ u => exact .inl ⟨t.take u, rfl⟩
      · exact .inr (by simp)
    split
    · exact go _ ho
    · refine remL_sl f _ r' (.inl ?_) (by rw [List.length_append]; omega) hx (by omega)
      rcases ho with ho | rfl
      · exact sl_app ho
      · obtain ⟨t, rfl⟩ := hs
        exact ⟨t.takeWhile (fun x => decide (x ≠ 47)), rfl⟩
def cutB (s p : ByteArray) : Bool := decide (p.size ≤ s.size ∧ (s.extract 0 p.size).toList = p.toList)
theorem cut_eq (s p : ByteArray) : strings_CutPrefix.f s p = some (if cutB s p = true then (s.extract p.size s.size, true) else (s, false)) := by
  unfold strings_CutPrefix.f stringslite_CutPrefix.f stringslite_HasPrefix.f cutB
  by_cases h : p.size ≤ s.size
  · rw [if_pos (by omega), if_pos (by omega), if_pos (by omega)]
    simp only [Int.toNat_natCast, Option.bind_some]
    by_cases e : (s.extract 0 p.size).toList = p.toList
    · rw [decide_eq_true ⟨h, e⟩, beq_iff_eq.2 e]
      simp only [if_true]
      rw [if_pos (by omega), if_pos (by omega)]
      rfl
    · rw [decide_eq_false (fun x => e x.2), beq_eq_false_iff_ne.2 e]
      rfl
  · rw [if_neg (by omega), decide_eq_false (fun x => h x.1)]
    rfl
theorem cut_first (s p : ByteArray) (x : Int) (t : List Int) (hp : bytesOf p = x :: t) (h : cutB s p = true) : bt s 0 = x ∧ 1 ≤ p.size ∧ p.size ≤ s.size := by
  unfold cutB at h
  have h := of_decide_eq_true h
  have hl : p.size = t.length + 1 := by rw [← bytesOf_length, hp]; rfl
  have e := (toList_iff _ _).1 h.2
  rw [bytes_extract, hp, List.drop_zero] at e
  refine ⟨?_, by omega, h.1⟩
  have e2 := bt_getD s 0
  rw [show ((0 : Nat) : Int) = 0 from rfl] at e2
  rw [e2]
  cases hb : bytesOf s with
  | nil => rw [hb] at e; simp at e
  | cons a u =>
    rw [hb, hl] at e
    simp at e
    exact e.1
theorem front_ev : ∀ (n : Nat) (s : ByteArray), s.size ≤ n → ∃ q, Ev (fun k => dots_front.l0 k s) q ∧ q.size ≤ s.size ∧ (0 < s.size → bt s 0 = 47 → q = s) := by
  intro n
  induction n with
  | zero =>
    intro s hs
    refine ⟨s, ?_, Nat.le_refl _, fun _ _ => rfl⟩
    have c1 : cutB s (⟨#[46, 47]⟩ : ByteArray) = false := decide_eq_false (fun x => by have := x.1; have e : (⟨#[46, 47]⟩ : ByteArray).size = 2 := rfl; omega)
    have c2 : cutB s (⟨#[46, 46, 47]⟩ : ByteArray) = false := decide_eq_false (fun x => by have := x.1; have e : (⟨#[46, 46, 47]⟩ : ByteArray).size = 3 := rfl; omega)
    have hb : bytesOf s = [] := bytes_empty.2 (by omega)
    have n1 : ¬ s.toList = ([46] : List UInt8) := fun h => by
      have := (toList_iff s ⟨#[46]⟩).1 (by rw [h, Lib.toList_data]); rw [hb] at this; exact absurd this (by decide)
    have n2 : ¬ s.toList = ([46, 46] : List UInt8) := fun h => by
      have := (toList_iff s ⟨#[46, 46]⟩).1 (by rw [h, Lib.toList_data]); rw [hb] at this; exact absurd this (by decide)
    refine Ev.step (f := fun _ => some s) (fun k => ?_) (Ev.now _)
    simp only [dots_front.l0, cut_eq, c1, c2, Option.bind_some, Bool.false_eq_true, if_false, n1, n2]
  | succ n ih =>
    intro s hs
    cases c1 : cutB s (⟨#[46, 47]⟩ : ByteArray) with
    | true =>
      have hf := cut_first s (⟨#[46, 47]⟩ : ByteArray) 46 [47] rfl c1
      obtain ⟨q, h1, h2, _⟩ := ih (s.extract (⟨#[46, 47]⟩ : ByteArray).size s.size) (by rw [ByteArray.size_extract]; omega)
      refine ⟨q, Ev.step (fun k => ?_) h1, by rw [ByteArray.size_extract] at h2; omega, fun _ h => by rw [hf.1] at h; exact absurd h (by decide)⟩
      simp only [dots_front.l0, cut_eq, c1, Option.bind_some, if_true]
    | false =>
      cases c2 : cutB s (⟨#[46, 46, 47]⟩ : ByteArray) with
      | true =>
        have hf := cut_first s (⟨#[46, 46, 47]⟩ : ByteArray) 46 [46, 47] rfl c2
        obtain ⟨q, h1, h2, _⟩ := ih (s.extract (⟨#[46, 46, 47]⟩ : ByteArray).size s.size) (by rw [ByteArray.size_extract]; omega)
        refine ⟨q, Ev.step (fun k => ?_) h1, by rw [ByteArray.size_extract] at h2; omega, fun _ h => by rw [hf.1] at h; exact absurd h (by decide)⟩
        simp only [dots_front.l0, cut_eq, c1, c2, Option.bind_some, Bool.false_eq_true, if_true, if_false]
      | false =>
        have first : ∀ (u : ByteArray) (t : List Int), bytesOf u = 46 :: t → s.toList = u.toList → bt s 0 = 46 := by
          intro u t hu h
          have e2 := bt_getD s 0
          rw [show ((0 : Nat) : Int) = 0 from rfl] at e2
          rw [e2, (toList_iff s u).1 h, hu]; rfl
        by_cases n1 : s.toList = ([46] : List UInt8)
        · refine ⟨⟨#[]⟩, Ev.step (f := fun _ => some ⟨#[]⟩) (fun k => ?_) (Ev.now _), Nat.zero_le _, fun _ h => ?_⟩
          · simp only [dots_front.l0, cut_eq, c1, c2, Option.bind_some, Bool.false_eq_true, if_false, n1, if_true]
          · rw [first ⟨#[46]⟩ [] rfl (by rw [n1, Lib.toList_data])] at h; exact absurd h (by decide)
        by_cases n2 : s.toList = ([46, 46] : List UInt8)
        · refine ⟨⟨#[]⟩, Ev.step (f := fun _ => some ⟨#[]⟩) (fun k => ?_) (Ev.now _), Nat.zero_le _, fun _ h => ?_⟩
          · simp only [dots_front.l0, cut_eq, c1, c2, Option.bind_some, Bool.false_eq_true, if_false, n2, if_true]
            rfl
          · rw [first ⟨#[46, 46]⟩ [46] rfl (by rw [n2, Lib.toList_data])] at h; exact absurd h (by decide)
        · refine ⟨s, Ev.step (f := fun _ => some s) (fun k => ?_) (Ev.now _), Nat.le_refl _, fun _ _ => rfl⟩
          simp only [dots_front.l0, cut_eq, c1, c2, Option.bind_some, Bool.false_eq_true, if_false, n1, n2]
end Go.Proofs.Yteebphjlecmgjaa.P23
