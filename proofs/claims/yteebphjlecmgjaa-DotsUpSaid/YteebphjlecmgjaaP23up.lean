/- Plain facts on dots.Remove of segments and steps up. No condition but those that each names. -/
import Derived.Test.YteebphjlecmgjaaP23u
namespace Go.Proofs.Yteebphjlecmgjaa.P23
open Go.RowKit Go.Proofs.Yteebphjlecmgjaa.PUps Go.Proofs.Yteebphjlecmgjaa.By Go.Proofs.YteebphjlecmgjaaW.PrintWords Go.Proofs.YteebphjlecmgjaaW.PrintLast
set_option linter.unusedVariables false

theorem piece_one (w r : List Int) (hw : ∀ x ∈ w, x ≠ 47) (hr : r = [] ∨ sl r) : pieceL (47 :: (w ++ r)) = 47 :: w := by
  have key : (w ++ r).takeWhile (fun x => decide (x ≠ 47)) = w := by
    induction w with
    | nil =>
      rcases hr with rfl | ⟨t, rfl⟩
      · rfl
      · rw [List.nil_append, List.takeWhile_cons]; simp
    | cons a w ih =>
      have ha := hw a (by simp)
      rw [List.cons_append, List.takeWhile_cons]
      simp only [ne_eq, ha, not_false_eq_true, decide_true, if_true]
      rw [ih (fun x hx => hw x (by simp [hx]))]
  show 47 :: (w ++ r).takeWhile (fun x => decide (x ≠ 47)) = 47 :: w
  rw [key]
theorem remL_step (f : Nat) (out w r : List Int) (hw : ∀ x ∈ w, x ≠ 47) (hr : r = [] ∨ sl r) : remL (f + 1) out (47 :: (w ++ r)) =
    if w = [46, 46] then remL f (if r = [] then out.take (ups out) ++ [47] else out.take (ups out)) r
    else if w = [46] then remL f (if r = [] then out ++ [47] else out) r
    else remL f (out ++ 47 :: w) r := by
  have hp := piece_one w r hw hr
  have hd : (47 :: (w ++ r)).drop (pieceL (47 :: (w ++ r))).length = r := by
    rw [hp, List.length_cons, List.drop_succ_cons, List.drop_left]
  conv => lhs; unfold remL
  rw [if_neg (by simp), hd, hp]
  simp only [List.cons.injEq, true_and]
/-- A path of one-letter segments. -/
def segs (cs : List Int) : List Int := (cs.map (fun c => [47, c])).flatten
def dd : Nat → List Int
  | 0 => []
  | n + 1 => [47, 46, 46] ++ dd n
theorem dd_sl (n : Nat) (r : List Int) (hr : r = [] ∨ sl r) : dd n ++ r = [] ∨ sl (dd n ++ r) := by
  cases n with
  | zero => exact hr
  | succ n => exact .inr ⟨_, rfl⟩
theorem segs_sl (cs : List Int) (r : List Int) (hr : r = [] ∨ sl r) : segs cs ++ r = [] ∨ sl (segs cs ++ r) := by
  cases cs with
  | nil => exact hr
  | cons c cs => exact .inr ⟨_, rfl⟩
def Let (cs : List Int) : Prop := ∀ c ∈ cs, 97 ≤ c ∧ c ≤ 122
theorem remL_segs : ∀ (cs : List Int) (f : Nat) (out r : List Int), Let cs → (r = [] ∨ sl r) → remL (f + cs.length) out (segs cs ++ r) = remL f (out ++ segs cs) r
  | [], f, out, r, _, _ => by simp [segs]
  | c :: cs, f, out, r, h, hr => by
    have hc := h c (by simp)
    have ih := remL_segs cs f (out ++ [47, c]) r (fun x hx => h x (by simp [hx])) hr
    have e : segs (c :: cs) ++ r = 47 :: ([c] ++ (segs cs ++ r)) := by simp [segs]
    rw [e, show f + (c :: cs).length = (f + cs.length) + 1 by simp; omega, remL_step _ _ [c] _ (by intro x hx; simp at hx; omega) (segs_sl cs r hr)]
    rw [if_neg (by simp), if_neg (by simp; omega), show out ++ 47 :: [c] = out ++ [47, c] from rfl, ih]
    simp [segs]
theorem segs_len (cs : List Int) : (segs cs).length = 2 * cs.length := by
  induction cs with
  | nil => rfl
  | cons c cs ih => simp only [segs, List.map_cons, List.flatten_cons, List.length_append, List.length_cons, List.length_nil] at ih ⊢; omega
theorem segs_app (a b : List Int) : segs (a ++ b) = segs a ++ segs b := by simp [segs]
theorem ups_segs (cs : List Int) (c : Int) (h : 97 ≤ c ∧ c ≤ 122) : (segs (cs ++ [c])).take (ups (segs (cs ++ [c]))) = segs cs := by
  have e : segs (cs ++ [c]) = segs cs ++ [47, c] := by simp [segs]
  have hl := segs_len cs
  have hu : ups (segs (cs ++ [c])) = (segs cs).length := by
    rw [e]
    unfold ups
    rw [List.length_append, show (segs cs).length + [47, c].length - 1 = (segs cs).length + 1 by simp]
    unfold upL
    rw [if_neg (by simp [List.getD_eq_getElem?_getD]; omega)]
    cases hn : (segs cs).length with
    | zero => rfl
    | succ n =>
      unfold upL
      rw [if_pos]
      rw [← hn]
      simp [List.getD_eq_getElem?_getD]
  rw [hu, e, List.take_left]
theorem ups_drop (cs : List Int) (h : Let cs) : (segs cs).take (ups (segs cs)) = segs cs.dropLast := by
  rcases List.eq_nil_or_concat cs with rfl | ⟨ds, c, rfl⟩
  · rfl
  · rw [List.concat_eq_append, List.dropLast_concat]
    exact ups_segs ds c (h c (by simp))
theorem let_drop {cs : List Int} (h : Let cs) : Let cs.dropLast := fun c hc => h c (by rw [List.dropLast_eq_take] at hc; exact List.mem_of_mem_take hc)
theorem remL_dd : ∀ (n : Nat) (cs : List Int) (f : Nat) (r : List Int), Let cs → sl r → remL (f + n) (segs cs) (dd n ++ r) = remL f (segs (cs.take (cs.length - n))) r
  | 0, cs, f, r, _, _ => by simp [dd]
  | n + 1, cs, f, r, h, hr => by
    have hne : dd n ++ r ≠ [] := by
      obtain ⟨t, rfl⟩ := hr
      intro e; have := congrArg List.length e; simp at this
    have e : dd (n + 1) ++ r = 47 :: ([46, 46] ++ (dd n ++ r)) := by simp [dd]
    rw [e, show f + (n + 1) = (f + n) + 1 by omega, remL_step _ _ [46, 46] _ (by intro x hx; simp at hx; omega) (dd_sl n r (.inr hr)), if_pos rfl, if_neg hne, ups_drop cs h, remL_dd n _ f r (let_drop h) hr]
    congr 2
    rw [List.dropLast_eq_take, List.take_take, List.length_take]
    congr 1
    omega
theorem remL_dd_end : ∀ (n : Nat) (cs : List Int) (f : Nat), Let cs → remL (f + (n + 1)) (segs cs) (dd (n + 1)) = segs (cs.take (cs.length - (n + 1))) ++ [47]
  | 0, cs, f, h => by
    have e : dd 1 = 47 :: ([46, 46] ++ []) := rfl
    rw [e, show f + (0 + 1) = f + 1 by omega, remL_step _ _ [46, 46] [] (by intro x hx; simp at hx; omega) (.inl rfl), if_pos rfl, if_pos rfl, ups_drop cs h, remL_nil, List.dropLast_eq_take]
  | n + 1, cs, f, h => by
    have e : dd (n + 2) = 47 :: ([46, 46] ++ dd (n + 1)) := by simp [dd]
    have hne : dd (n + 1) ≠ [] := by simp [dd]
    rw [e, show f + (n + 1 + 1) = (f + (n + 1)) + 1 by omega, remL_step _ _ [46, 46] (dd (n + 1)) (by intro x hx; simp at hx; omega) (.inr ⟨[46, 46] ++ dd n, rfl⟩), if_pos rfl, if_neg hne, ups_drop cs h, remL_dd_end n _ f (let_drop h)]
    congr 2
    rw [List.dropLast_eq_take, List.take_take, List.length_take]
    congr 1
    omega
/-- Up, and no more. -/
theorem up_all (cs : List Int) (m f : Nat) (h : Let cs) (hf : cs.length + (cs.length + m) ≤ f) : remL f [] (segs cs ++ dd (cs.length + m)) = if cs.length + m = 0 then [] else [47] := by
  obtain ⟨g, rfl⟩ : ∃ g, f = g + (cs.length + m) + cs.length := ⟨f - (cs.length + (cs.length + m)), by omega⟩
  rw [remL_segs cs _ [] _ h (by have := dd_sl (cs.length + m) [] (.inl rfl); rwa [List.append_nil] at this), List.nil_append]
  by_cases e : cs.length + m = 0
  · rw [if_pos e, e]
    have : cs = [] := List.length_eq_zero_iff.1 (by omega)
    subst this
    exact remL_nil _ _
  · rw [if_neg e]
    obtain ⟨k, hk⟩ : ∃ k, cs.length + m = k + 1 := ⟨cs.length + m - 1, by omega⟩
    rw [hk, remL_dd_end k cs g h, show cs.length - (k + 1) = 0 by omega]
    rfl
theorem up_x (cs : List Int) (m f : Nat) (h : Let cs) (hf : cs.length + (cs.length + m) + 2 ≤ f) : remL f [] (segs cs ++ (dd (cs.length + m) ++ [47, 120])) = [47, 120] := by
  obtain ⟨g, rfl⟩ : ∃ g, f = (g + 1) + (cs.length + m) + cs.length := ⟨f - (cs.length + (cs.length + m)) - 1, by omega⟩
  rw [remL_segs cs _ [] _ h (dd_sl _ _ (.inr ⟨_, rfl⟩)), List.nil_append, remL_dd _ cs _ _ h ⟨_, rfl⟩, show cs.length - (cs.length + m) = 0 by omega]
  have := remL_step g [] [120] [] (by intro x hx; simp at hx; omega) (.inl rfl)
  rw [if_neg (by simp), if_neg (by simp), remL_nil] at this
  exact this
theorem up_dot (cs : List Int) (f : Nat) (h : Let cs) (hf : cs.length + 2 ≤ f) : remL f [] (segs cs ++ [47, 46]) = segs cs ++ [47] := by
  obtain ⟨g, rfl⟩ : ∃ g, f = (g + 1) + cs.length := ⟨f - cs.length - 1, by omega⟩
  rw [remL_segs cs _ [] _ h (.inr ⟨_, rfl⟩), List.nil_append]
  have := remL_step g (segs cs) [46] [] (by intro x hx; simp at hx; omega) (.inl rfl)
  rw [if_neg (by simp), if_pos rfl, if_pos rfl, remL_nil] at this
  exact this
end Go.Proofs.Yteebphjlecmgjaa.P23
