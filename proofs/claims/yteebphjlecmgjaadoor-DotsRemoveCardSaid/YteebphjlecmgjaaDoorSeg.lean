/- Plain facts on a path's segments and on what is left of a path: lists of byte values alone. No condition but those that each names. -/
import Derived.Test.YteebphjlecmgjaaDoorPAllx6
import Derived.Test.YteebphjlecmgjaaDoorBy
namespace Go.Proofs.YteebphjlecmgjaaDoor.Seg
open Go.RowKit Go.Proofs.YteebphjlecmgjaaDoor.PAll Go.Proofs.YteebphjlecmgjaaDoor.By Go.Proofs.YteebphjlecmgjaaDoorW.PrintWords Go.Proofs.YteebphjlecmgjaaDoorW.PrintLast
set_option linter.unusedVariables false
/-- A text cut at its slashes. -/
def segs : List Int → List (List Int)
  | [] => [[]]
  | c :: t => if c = 47 then [] :: segs t else (match segs t with
    | [] => [[c]]
    | s :: r => (c :: s) :: r)
theorem segs_ne : ∀ l : List Int, segs l ≠ []
  | [] => by decide
  | c :: t => by
    unfold segs
    split
    · exact List.cons_ne_nil _ _
    · split <;> exact List.cons_ne_nil _ _
theorem segs_slash : ∀ (a b : List Int), segs (a ++ 47 :: b) = segs a ++ segs b
  | [], b => by simp [segs]
  | c :: t, b => by
    have ih := segs_slash t b
    rw [List.cons_append, segs, segs, ih]
    by_cases hc : c = 47
    · rw [if_pos hc, if_pos hc, List.cons_append]
    · rw [if_neg hc, if_neg hc]
      cases hs : segs t with
      | nil => exact absurd hs (segs_ne t)
      | cons s r => rfl
theorem segs_free : ∀ (t : List Int), (∀ x ∈ t, x ≠ 47) → segs t = [t]
  | [], _ => rfl
  | c :: t, h => by
    rw [segs, if_neg (h c List.mem_cons_self), segs_free t (fun x hx => h x (List.mem_cons_of_mem _ hx))]
/-- No segment is one dot or two. -/
def ok (s : List Int) : Prop := s ≠ [46] ∧ s ≠ [46, 46]
instance (s : List Int) : Decidable (ok s) := inferInstanceAs (Decidable (_ ∧ _))
def free (l : List Int) : Prop := ∀ s ∈ segs l, ok s
theorem free_nil : free [] := by
  intro s hs
  have : s = [] := by simpa [segs] using hs
  subst this
  decide
theorem free_slash {a b : List Int} : free (a ++ 47 :: b) ↔ free a ∧ free b := by
  unfold free
  rw [segs_slash]
  simp only [List.mem_append]
  exact ⟨fun h => ⟨fun s hs => h s (.inl hs), fun s hs => h s (.inr hs)⟩, fun h s hs => hs.elim (h.1 s) (h.2 s)⟩
theorem free_word {t : List Int} (h : ∀ x ∈ t, x ≠ 47) : free t ↔ ok t := by
  unfold free
  rw [segs_free t h]
  simp
def sl (l : List Int) : Prop := ∃ t, l = 47 :: t
/-- A text's first piece, and what stands behind it. -/
theorem decomp (rest : List Int) (h : rest ≠ []) : ∃ c a r', rest = c :: (a ++ r') ∧ (∀ x ∈ a, x ≠ 47) ∧ (r' = [] ∨ sl r') ∧ pieceL rest = c :: a ∧ rest.drop (pieceL rest).length = r' := by
  cases rest with
  | nil => exact absurd rfl h
  | cons c t =>
    refine ⟨c, t.takeWhile (fun x => decide (x ≠ 47)), t.dropWhile (fun x => decide (x ≠ 47)), by rw [List.takeWhile_append_dropWhile], ?_, ?_, rfl, ?_⟩
    · intro x hx
      have := List.all_eq_true.1 (List.all_takeWhile (p := fun x => decide (x ≠ 47)) (l := t)) x hx
      simpa using this
    · cases hd : t.dropWhile (fun x => decide (x ≠ 47)) with
      | nil => exact .inl rfl
      | cons y u =>
        right
        have : ¬ (decide (y ≠ 47)) = true := by
          have := List.head_dropWhile_not (fun x => decide (x ≠ 47)) (l := t) (by rw [hd]; exact List.cons_ne_nil _ _)
          simp only [hd, List.head_cons] at this
          rw [this]
          decide
        refine ⟨u, ?_⟩
        have hy : y = 47 := by simpa using this
        rw [hy]
    · simp only [pieceL, List.length_cons, List.drop_succ_cons]
      conv => lhs; arg 2; rw [← List.takeWhile_append_dropWhile (p := fun x => decide (x ≠ 47)) (l := t)]
      exact List.drop_left
theorem rest_free {c : Int} {a r' : List Int} (ha : ∀ x ∈ a, x ≠ 47) (hr : r' = [] ∨ sl r') (h : free (c :: (a ++ r'))) : (c = 47 → ok a) ∧ (c ≠ 47 → ok (c :: a)) ∧ free r' := by
  by_cases hc : c = 47
  · subst hc
    have h1 : free (a ++ r') := (free_slash (a := []) (b := a ++ r')).1 h |>.2
    rcases hr with rfl | ⟨b, rfl⟩
    · rw [List.append_nil] at h1
      exact ⟨fun _ => (free_word ha).1 h1, fun hn => absurd rfl hn, free_nil⟩
    · have h2 := free_slash.1 h1
      exact ⟨fun _ => (free_word ha).1 h2.1, fun hn => absurd rfl hn, (free_slash (a := [])).2 ⟨free_nil, h2.2⟩⟩
  · have hca : ∀ x ∈ c :: a, x ≠ 47 := fun x hx => (List.mem_cons.1 hx).elim (fun e => e ▸ hc) (ha x)
    rcases hr with rfl | ⟨b, rfl⟩
    · rw [List.append_nil] at h
      exact ⟨fun e => absurd e hc, fun _ => (free_word hca).1 h, free_nil⟩
    · have h2 : free (c :: a) ∧ free b := free_slash.1 (show free ((c :: a) ++ 47 :: b) from h)
      exact ⟨fun e => absurd e hc, fun _ => (free_word hca).1 h2.1, (free_slash (a := [])).2 ⟨free_nil, h2.2⟩⟩
theorem piece_dots {c : Int} {a : List Int} (h : c = 47 → ok a) : c :: a ≠ [47, 46, 46] ∧ c :: a ≠ [47, 46] := by
  refine ⟨fun e => ?_, fun e => ?_⟩
  · injection e with e1 e2
    exact (h e1).2 e2
  · injection e with e1 e2
    exact (h e1).1 e2
/-- What has no dot segments stays. -/
theorem remL_free : ∀ (f : Nat) (out rest : List Int), free rest → rest.length < f → remL f out rest = out ++ rest
  | 0, out, rest, _, h => by omega
  | f + 1, out, rest, hf, hl => by
    unfold remL
    by_cases h : rest = []
    · rw [if_pos h, h, List.append_nil]
    rw [if_neg h]
    obtain ⟨c, a, r', hd, ha, hr, hp, hdr⟩ := decomp rest h
    rw [hd] at hf
    obtain ⟨h1, h2, h3⟩ := rest_free ha hr hf
    obtain ⟨n1, n2⟩ := piece_dots h1
    rw [hdr, hp, if_neg n1, if_neg n2, remL_free f _ r' h3 (by rw [hd] at hl; simp at hl; omega), hd]
    simp
theorem ups_cut (out : List Int) : ∀ n, upL out n = 0 ∨ out.getD (upL out n) 0 = 47
  | 0 => .inl rfl
  | n + 1 => by
    unfold upL
    by_cases h : out.getD (n + 1) 0 = 47
    · rw [if_pos h]; exact .inr h
    · rw [if_neg h]; exact ups_cut out n
theorem up_free {out : List Int} (h : free out) : free (out.take (ups out)) := by
  rcases ups_cut out (out.length - 1) with h0 | h1
  · unfold ups
    rw [h0]
    exact free_nil
  · have hlt : ups out < out.length := by
      rcases Nat.lt_or_ge (ups out) out.length with hh | hh
      · exact hh
      · unfold ups at hh
        rw [List.getD_eq_getElem?_getD, List.getElem?_eq_none (by omega)] at h1
        exact absurd h1 (by decide)
    have e : out = out.take (ups out) ++ 47 :: out.drop (ups out + 1) := by
      conv => lhs; rw [← List.take_append_drop (ups out) out, List.drop_eq_getElem_cons hlt]
      unfold ups at hlt
      rw [List.getD_eq_getElem?_getD, List.getElem?_eq_getElem hlt] at h1
      simp only [Option.getD_some] at h1
      congr 2
    rw [e] at h
    exact (free_slash.1 h).1
/-- What is left has no dot segments. -/
theorem remL_isFree : ∀ (f : Nat) (out rest : List Int), free out → (rest = [] ∨ sl rest ∨ (out = [] ∧ ∀ c a r', rest = c :: (a ++ r') → (∀ x ∈ a, x ≠ 47) → (r' = [] ∨ sl r') → c ≠ 47 → ok (c :: a))) → free (remL f out rest)
  | 0, out, rest, ho, _ => by unfold remL; exact ho
  | f + 1, out, rest, ho, hr0 => by
    unfold remL
    by_cases h : rest = []
    · rw [if_pos h]; exact ho
    rw [if_neg h]
    obtain ⟨c, a, r', hd, ha, hr, hp, hdr⟩ := decomp rest h
    rw [hdr, hp]
    have last : ∀ o : List Int, free o → free (remL f (if r' = [] then o ++ [47] else o) r') := by
      intro o hf
      refine remL_isFree f _ r' ?_ (hr.imp_right .inl)
      split
      · exact free_slash.2 ⟨hf, free_nil⟩
      · exact hf
    by_cases n1 : c :: a = [47, 46, 46]
    · rw [if_pos n1]
      exact last _ (up_free ho)
    rw [if_neg n1]
    by_cases n2 : c :: a = [47, 46]
    · rw [if_pos n2]
      exact last _ ho
    rw [if_neg n2]
    refine remL_isFree f _ r' ?_ (hr.imp_right .inl)
    by_cases hc : c = 47
    · subst hc
      refine free_slash.2 ⟨ho, (free_word ha).2 ⟨fun e => n2 (by rw [e]), fun e => n1 (by rw [e])⟩⟩
    · rcases hr0 with e | ⟨t, e⟩ | ⟨e, hk⟩
      · exact absurd e h
      · rw [hd] at e
        injection e with e _
        exact absurd e hc
      · rw [e, List.nil_append]
        have hca : ∀ x ∈ c :: a, x ≠ 47 := fun x hx => (List.mem_cons.1 hx).elim (fun e => e ▸ hc) (ha x)
        exact (free_word hca).2 (hk c a r' hd ha hr hc)
/-- What stands ahead of the first slash, when it is but dots, goes. -/
def frontL : Nat → List Int → List Int
  | 0, l => l
  | f + 1, l => if l.take 2 = [46, 47] then frontL f (l.drop 2) else if l.take 3 = [46, 46, 47] then frontL f (l.drop 3) else if l = [46] then [] else if l = [46, 46] then [] else l
theorem frontL_len : ∀ (f : Nat) (l : List Int), (frontL f l).length ≤ l.length
  | 0, l => Nat.le_refl _
  | f + 1, l => by
    unfold frontL
    split
    · have := frontL_len f (l.drop 2); rw [List.length_drop] at this; omega
    split
    · have := frontL_len f (l.drop 3); rw [List.length_drop] at this; omega
    split
    · exact Nat.zero_le _
    split
    · exact Nat.zero_le _
    · exact Nat.le_refl _
theorem frontL_free (f : Nat) (l : List Int) (h : free l) : frontL f l = l := by
  have key : ∀ t, free (46 :: 47 :: t) → False := fun t hh => absurd ((free_slash (a := [46])).1 hh).1 (by unfold free; decide)
  have key2 : ∀ t, free (46 :: 46 :: 47 :: t) → False := fun t hh => absurd ((free_slash (a := [46, 46])).1 hh).1 (by unfold free; decide)
  cases f with
  | zero => rfl
  | succ f =>
    unfold frontL
    rw [if_neg, if_neg, if_neg, if_neg]
    · intro e; rw [e] at h; exact absurd h (by unfold free; decide)
    · intro e; rw [e] at h; exact absurd h (by unfold free; decide)
    · intro e
      rw [← List.take_append_drop 3 l, e] at h
      exact key2 _ h
    · intro e
      rw [← List.take_append_drop 2 l, e] at h
      exact key _ h
/-- Behind it the first piece is no dots. -/
theorem frontL_first : ∀ (f : Nat) (l : List Int), l.length ≤ f → ∀ c a r', frontL f l = c :: (a ++ r') → (∀ x ∈ a, x ≠ 47) → (r' = [] ∨ sl r') → c ≠ 47 → ok (c :: a)
  | 0, l, hl, c, a, r', h, _, _, _ => by
    unfold frontL at h
    rw [h] at hl
    simp at hl
  | f + 1, l, hl, c, a, r', h, ha, hr, hc => by
    unfold frontL at h
    split at h
    · exact frontL_first f (l.drop 2) (by rw [List.length_drop]; omega) c a r' h ha hr hc
    split at h
    · exact frontL_first f (l.drop 3) (by rw [List.length_drop]; omega) c a r' h ha hr hc
    split at h
    · exact absurd h (by simp)
    split at h
    · exact absurd h (by simp)
    · rename_i h1 h2 h3 h4
      refine ⟨fun e => ?_, fun e => ?_⟩
      · injection e with e1 e2
        subst e1 e2
        rcases hr with rfl | ⟨t, rfl⟩
        · exact h3 (by rw [h]; rfl)
        · exact h1 (by rw [h]; rfl)
      · injection e with e1 e2
        subst e1 e2
        rcases hr with rfl | ⟨t, rfl⟩
        · exact h4 (by rw [h]; rfl)
        · exact h2 (by rw [h]; rfl)
/-- A path without dot segments. -/
def rem (l : List Int) : List Int := remL ((frontL l.length l).length + 1) [] (frontL l.length l)
theorem rem_isFree (l : List Int) : free (rem l) := by
  refine remL_isFree _ _ _ free_nil ?_
  by_cases h : frontL l.length l = []
  · exact .inl h
  · exact .inr (.inr ⟨rfl, frontL_first l.length l (Nat.le_refl _)⟩)
theorem rem_of_free (l : List Int) (h : free l) : rem l = l := by
  unfold rem
  rw [frontL_free _ _ h, remL_free _ _ _ h (by omega), List.nil_append]
theorem rem_iff (l : List Int) : rem l = l ↔ free l := ⟨fun h => h ▸ rem_isFree l, rem_of_free l⟩
end Go.Proofs.YteebphjlecmgjaaDoor.Seg
