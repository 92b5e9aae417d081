/- Plain facts on a text's five components, on lists of byte values. No condition but those that each names. -/
import Derived.Test.YtgccggbokphibaaBy
namespace Go.Proofs.Ytgccggbokphibaa.P20
open Go.RowKit Go.Proofs.Ytgccggbokphibaa.By Go.Proofs.YtgccggbokphibaaW.PrintWords Go.Proofs.YtgccggbokphibaaW.PrintLast
set_option linter.unusedVariables false

/-- What stands ahead of the first of some bytes. -/
def hd (set l : List Int) : List Int := l.takeWhile (fun c => !decide (c ∈ set))
/-- The rest, from the first of them on. -/
def tl (set l : List Int) : List Int := l.dropWhile (fun c => !decide (c ∈ set))
def Free (set l : List Int) : Prop := ∀ c ∈ l, c ∉ set
theorem hd_tl (set l : List Int) : hd set l ++ tl set l = l := List.takeWhile_append_dropWhile
theorem hd_free (set : List Int) : ∀ l : List Int, Free set (hd set l)
  | [] => by intro c hc; cases hc
  | a :: t => by
    intro c hc
    unfold hd at hc
    rw [List.takeWhile_cons] at hc
    by_cases h : a ∈ set
    · simp [h] at hc
    · simp only [h, decide_false, Bool.not_false, if_true] at hc
      rcases List.mem_cons.1 hc with rfl | hc
      · exact h
      · exact hd_free set t c hc
theorem tl_head (set : List Int) : ∀ l : List Int, tl set l = [] ∨ ∃ c t, tl set l = c :: t ∧ c ∈ set
  | [] => .inl rfl
  | a :: t => by
    unfold tl
    rw [List.dropWhile_cons]
    by_cases h : a ∈ set
    · right; exact ⟨a, t, by simp [h], h⟩
    · simp only [h, decide_false, Bool.not_false, if_true]
      exact tl_head set t
theorem hd_app (set : List Int) (rest : List Int) (hr : rest = [] ∨ ∃ c t, rest = c :: t ∧ c ∈ set) : ∀ l : List Int, Free set l → hd set (l ++ rest) = l ∧ tl set (l ++ rest) = rest
  | [], _ => by
    rcases hr with rfl | ⟨c, t, rfl, hc⟩
    · exact ⟨rfl, rfl⟩
    · constructor
      · unfold hd; simp [hc]
      · unfold tl; simp [hc]
  | a :: t, h => by
    have ih := hd_app set rest hr t (fun c hc => h c (List.mem_cons_of_mem _ hc))
    have ha := h a (List.mem_cons_self ..)
    constructor
    · show List.takeWhile _ (a :: (t ++ rest)) = a :: t
      rw [List.takeWhile_cons]
      simp only [ha, decide_false, Bool.not_false, if_true]
      have := ih.1
      unfold hd at this
      rw [this]
    · show List.dropWhile _ (a :: (t ++ rest)) = rest
      rw [List.dropWhile_cons]
      simp only [ha, decide_false, Bool.not_false, if_true]
      exact ih.2
theorem hd_all (set l : List Int) (h : Free set l) : hd set l = l ∧ tl set l = [] := by
  have := hd_app set [] (.inl rfl) l h
  rwa [List.append_nil] at this
def SS : List Int := [58, 47, 63, 35]
def SA : List Int := [47, 63, 35]
def SP : List Int := [63, 35]
def SQ : List Int := [35]
def s1 (l : List Int) : List Int × List Int := if hd SS l ≠ [] ∧ (tl SS l).head? = some 58 then (hd SS l, (tl SS l).tail) else ([], l)
def s2 (l : List Int) : Bool × List Int × List Int := if l.take 2 = [47, 47] then (true, hd SA (l.drop 2), tl SA (l.drop 2)) else (false, [], l)
def s4 (l : List Int) : Bool × List Int × List Int := if l.head? = some 63 then (true, hd SQ l.tail, tl SQ l.tail) else (false, [], l)
def s5 (l : List Int) : Bool × List Int := if l.head? = some 35 then (true, l.tail) else (false, [])
def j1 (sc l : List Int) : List Int := if sc ≠ [] then sc ++ 58 :: l else l
def j2 (ha : Bool) (au l : List Int) : List Int := if ha = true then 47 :: 47 :: (au ++ l) else l
def j4 (hq : Bool) (qu l : List Int) : List Int := if hq = true then 63 :: (qu ++ l) else l
def j5 (hf : Bool) (fr : List Int) : List Int := if hf = true then 35 :: fr else []
theorem head_tail {l : List Int} {c : Int} (h : l.head? = some c) : l = c :: l.tail := by
  cases l with
  | nil => cases h
  | cons a t => simp at h; rw [h]; rfl
theorem take2 {l : List Int} (h : l.take 2 = [47, 47]) : l = 47 :: 47 :: l.drop 2 := by
  cases l with
  | nil => cases h
  | cons a t =>
    cases t with
    | nil => simp at h
    | cons b u => simp at h; rw [h.1, h.2]; rfl
theorem j1_s1 (l : List Int) : j1 (s1 l).1 (s1 l).2 = l := by
  unfold s1
  split
  case isTrue h =>
    simp only [j1]
    rw [if_pos h.1, ← head_tail h.2, hd_tl]
  case isFalse h => simp [j1]
theorem j2_s2 (l : List Int) : j2 (s2 l).1 (s2 l).2.1 (s2 l).2.2 = l := by
  unfold s2
  split
  case isTrue h =>
    simp only [j2, if_true]
    rw [hd_tl]
    exact (take2 h).symm
  case isFalse h => simp [j2]
theorem j4_s4 (l : List Int) : j4 (s4 l).1 (s4 l).2.1 (s4 l).2.2 = l := by
  unfold s4
  split
  case isTrue h =>
    simp only [j4, if_true]
    rw [hd_tl]
    exact (head_tail h).symm
  case isFalse h => simp [j4]
/-- What is left behind a path, or behind a query: it begins with its mark. -/
def Beg (set l : List Int) : Prop := l = [] ∨ ∃ c t, l = c :: t ∧ c ∈ set
theorem j5_s5 (l : List Int) (h : Beg SQ l) : j5 (s5 l).1 (s5 l).2 = l := by
  unfold s5
  rcases h with rfl | ⟨c, t, rfl, hc⟩
  · rfl
  · have : c = 35 := by simpa [SQ] using hc
    subst this
    rfl
theorem s4_beg (l : List Int) (h : Beg SP l) : Beg SQ (s4 l).2.2 := by
  unfold s4
  split
  case isTrue h2 => exact tl_head SQ _
  case isFalse h2 =>
    rcases h with rfl | ⟨c, t, rfl, hc⟩
    · exact .inl rfl
    · right
      refine ⟨c, t, rfl, ?_⟩
      simp at h2
      simp [SP, h2] at hc
      simp [SQ, hc]
def Rooted (sc : List Int) (ha : Bool) (pa : List Int) : Prop :=
  if ha = true then pa = [] ∨ pa.head? = some 47 else pa.take 2 ≠ [47, 47] ∧ (sc ≠ [] ∨ ¬ (hd [47] pa ≠ [] ∧ (hd [47, 58] pa ≠ [] ∧ (tl [47, 58] pa).head? = some 58)))
def Fits (sc : List Int) (ha : Bool) (au pa : List Int) (hq : Bool) (qu : List Int) (hf : Bool) (fr : List Int) : Prop :=
  (ha = false → au = []) ∧ (hq = false → qu = []) ∧ (hf = false → fr = []) ∧ Free SS sc ∧ Free SA au ∧ Free SP pa ∧ Free SQ qu ∧ Rooted sc ha pa
def join (sc : List Int) (ha : Bool) (au pa : List Int) (hq : Bool) (qu : List Int) (hf : Bool) (fr : List Int) : List Int := j1 sc (j2 ha au (pa ++ j4 hq qu (j5 hf fr)))
def P8 : Type := List Int × Bool × List Int × List Int × Bool × List Int × Bool × List Int
def split (l : List Int) : P8 :=
  let a := s1 l
  let b := s2 a.2
  let q := s4 (tl SP b.2.2)
  let f := s5 q.2.2
  (a.1, b.1, b.2.1, hd SP b.2.2, q.1, q.2.1, f.1, f.2)
theorem join_split (l : List Int) : join (split l).1 (split l).2.1 (split l).2.2.1 (split l).2.2.2.1 (split l).2.2.2.2.1 (split l).2.2.2.2.2.1 (split l).2.2.2.2.2.2.1 (split l).2.2.2.2.2.2.2 = l := by
  unfold split join
  simp only
  rw [j5_s5 _ (s4_beg _ (tl_head SP _)), j4_s4, hd_tl, j2_s2, j1_s1]
theorem Free.sub {a b l : List Int} (h : Free a l) (hs : ∀ c ∈ b, c ∈ a) : Free b l := fun c hc hm => h c hc (hs c hm)
theorem tl_shift {a b l : List Int} (hs : ∀ c ∈ b, c ∈ a) : ∀ l : List Int, (hd a l = hd b l ∧ tl a l = tl b l) ∨ (∃ c t u, tl a l = c :: t ∧ c ∈ a ∧ c ∉ b ∧ hd b l = hd a l ++ c :: u)
  | [] => .inl ⟨rfl, rfl⟩
  | x :: t => by
    by_cases hb : x ∈ b
    · left
      have ha := hs x hb
      unfold hd tl
      simp [ha, hb]
    · by_cases ha : x ∈ a
      · right
        refine ⟨x, t, hd b t, ?_, ha, hb, ?_⟩
        · unfold tl; simp [ha]
        · unfold hd; simp [ha, hb]
      · rcases tl_shift (l := l) hs t with ⟨h1, h2⟩ | ⟨c, t', u, h1, h2, h3, h4⟩
        · left
          constructor
          · unfold hd at h1 ⊢; simp only [List.takeWhile_cons, ha, hb, decide_false, Bool.not_false, if_true, h1]
          · unfold tl at h2 ⊢; simp only [List.dropWhile_cons, ha, hb, decide_false, Bool.not_false, if_true, h2]
        · right
          refine ⟨c, t', u, ?_, h2, h3, ?_⟩
          · unfold tl at h1 ⊢; simp only [List.dropWhile_cons, ha, decide_false, Bool.not_false, if_true, h1]
          · unfold hd at h4 ⊢; simp only [List.takeWhile_cons, ha, hb, decide_false, Bool.not_false, if_true, h4, List.cons_append]
theorem s1_free (l : List Int) : Free SS (s1 l).1 := by
  unfold s1
  split
  · exact hd_free SS l
  · intro c hc; cases hc
theorem s2_free (l : List Int) : Free SA (s2 l).2.1 := by
  unfold s2
  split
  · exact hd_free SA _
  · intro c hc; cases hc
theorem s4_free (l : List Int) : Free SQ (s4 l).2.1 := by
  unfold s4
  split
  · exact hd_free SQ _
  · intro c hc; cases hc
theorem hd_nil {set l : List Int} (h : hd set l = []) : l = [] ∨ ∃ c t, l = c :: t ∧ c ∈ set := by
  have := hd_tl set l
  rw [h, List.nil_append] at this
  rw [← this]
  exact tl_head set l
/-- Where the path is cut at '?' and '#': its colon is the text's. -/
theorem colon_in (l : List Int) (h : hd [47, 58] (hd SP l) ≠ [] ∧ (tl [47, 58] (hd SP l)).head? = some 58) : hd SS l ≠ [] ∧ (tl SS l).head? = some 58 := by
  have e := hd_tl SP l
  have e2 := hd_tl [47, 58] (hd SP l)
  have ht := head_tail h.2
  have f1 := hd_free SP l
  have f2 := hd_free [47, 58] (hd SP l)
  have hf : Free SS (hd [47, 58] (hd SP l)) := by
    intro c hc hm
    have h1 := f2 c hc
    have h2 := f1 c (by rw [← e2]; exact List.mem_append_left _ hc)
    simp [SS, SP] at hm h1 h2
    omega
  have el : l = hd [47, 58] (hd SP l) ++ (58 :: ((tl [47, 58] (hd SP l)).tail ++ tl SP l)) := by
    conv => lhs; rw [← e, ← e2, ht]
    rw [List.append_assoc]; rfl
  have := hd_app SS (58 :: ((tl [47, 58] (hd SP l)).tail ++ tl SP l)) (.inr ⟨58, _, rfl, by simp [SS]⟩) _ hf
  rw [← el] at this
  rw [this.1, this.2]
  exact ⟨h.1, rfl⟩
theorem fits_split (l : List Int) : Fits (split l).1 (split l).2.1 (split l).2.2.1 (split l).2.2.2.1 (split l).2.2.2.2.1 (split l).2.2.2.2.2.1 (split l).2.2.2.2.2.2.1 (split l).2.2.2.2.2.2.2 := by
  unfold split
  simp only
  refine ⟨?_, ?_, ?_, s1_free l, s2_free _, hd_free SP _, s4_free _, ?_⟩
  · unfold s2; split <;> simp
  · unfold s4; split <;> simp
  · unfold s5; split <;> simp
  · unfold Rooted
    by_cases h2 : (s1 l).2.take 2 = [47, 47]
    · have e : s2 (s1 l).2 = (true, hd SA ((s1 l).2.drop 2), tl SA ((s1 l).2.drop 2)) := by unfold s2; rw [if_pos h2]
      rw [e]
      simp only [if_true]
      rcases tl_head SA ((s1 l).2.drop 2) with h | ⟨c, t, h, hc⟩
      · left; rw [h]; rfl
      · rw [h]
        by_cases hp : c ∈ SP
        · left; unfold hd; simp [hp]
        · right
          have : c = 47 := by simp [SA, SP] at hc hp; omega
          subst this
          unfold hd; simp [SP]
    · have e : s2 (s1 l).2 = (false, [], (s1 l).2) := by unfold s2; rw [if_neg h2]
      rw [e]
      simp only [Bool.false_eq_true, if_false]
      constructor
      · intro h
        refine h2 ?_
        have := take2 h
        have e3 := hd_tl SP (s1 l).2
        rw [this] at e3
        rw [← e3]
        rfl
      · by_cases h1 : hd SS l ≠ [] ∧ (tl SS l).head? = some 58
        · left
          unfold s1; rw [if_pos h1]; exact h1.1
        · right
          intro hx
          have e4 : (s1 l).2 = l := by unfold s1; rw [if_neg h1]
          rw [e4] at hx
          exact h1 (colon_in l hx.2)
theorem split_join (sc : List Int) (ha : Bool) (au pa : List Int) (hq : Bool) (qu : List Int) (hf : Bool) (fr : List Int) (h : Fits sc ha au pa hq qu hf fr) :
    split (join sc ha au pa hq qu hf fr) = (sc, ha, au, pa, hq, qu, hf, fr) := by
  obtain ⟨h1, h2, h3, f1, f2, f3, f4, hr⟩ := h
  have e5 : s5 (j5 hf fr) = (hf, fr) := by
    cases hf with
    | true => rfl
    | false => rw [h3 rfl]; rfl
  have b5 : Beg SQ (j5 hf fr) := by
    cases hf with
    | true => exact .inr ⟨35, fr, rfl, by simp [SQ]⟩
    | false => exact .inl rfl
  have e4 : s4 (j4 hq qu (j5 hf fr)) = (hq, qu, j5 hf fr) := by
    cases hq with
    | true =>
      have := hd_app SQ (j5 hf fr) b5 qu f4
      simp only [j4, s4, if_true, List.head?_cons, List.tail_cons, this.1, this.2]
    | false =>
      rw [h2 rfl]
      simp only [j4, s4, Bool.false_eq_true, if_false]
      rw [if_neg ?_]
      rcases b5 with h | ⟨c, t, h, hc⟩
      · rw [h]; simp
      · rw [h]; simp [SQ] at hc; simp [hc]
  have b4 : Beg SP (j4 hq qu (j5 hf fr)) := by
    cases hq with
    | true => exact .inr ⟨63, _, rfl, by simp [SP]⟩
    | false =>
      simp only [j4, Bool.false_eq_true, if_false]
      rcases b5 with h | ⟨c, t, h, hc⟩
      · exact .inl h
      · exact .inr ⟨c, t, h, by simp [SQ] at hc; simp [SP, hc]⟩
  have ep := hd_app SP _ b4 pa f3
  obtain ⟨R, hR⟩ : ∃ R, R = j4 hq qu (j5 hf fr) := ⟨_, rfl⟩
  have e2 : s2 (j2 ha au (pa ++ R)) = (ha, au, pa ++ R) := by
    rw [hR]
    cases ha with
    | true =>
      unfold Rooted at hr
      simp only [if_true] at hr
      have bp : Beg SA (pa ++ j4 hq qu (j5 hf fr)) := by
        rcases hr with rfl | hr
        · rw [List.nil_append]
          rcases b4 with h | ⟨c, t, h, hc⟩
          · exact .inl h
          · exact .inr ⟨c, t, h, by simp [SP] at hc; simp [SA]; omega⟩
        · right
          rw [head_tail hr]
          exact ⟨47, _, rfl, by simp [SA]⟩
      have := hd_app SA _ bp au f2
      simp only [j2, s2, if_true, List.take_succ_cons, List.take_zero, List.drop_succ_cons, List.drop_zero, this.1, this.2]
    | false =>
      rw [h1 rfl]
      unfold Rooted at hr
      simp only [Bool.false_eq_true, if_false] at hr
      simp only [j2, s2, Bool.false_eq_true, if_false]
      rw [if_neg ?_]
      intro hx
      refine hr.1 ?_
      cases pa with
      | nil =>
        rw [List.nil_append] at hx
        rcases b4 with h | ⟨c, t, h, hc⟩
        · rw [h] at hx; simp at hx
        · rw [h] at hx; simp at hx; simp [SP] at hc; omega
      | cons a t =>
        cases t with
        | nil =>
          rcases b4 with h | ⟨c, t, h, hc⟩
          · rw [h] at hx; simp at hx
          · rw [h] at hx; simp at hx; simp [SP] at hc; omega
        | cons b u => simpa using hx
  have e1 : s1 (j1 sc (j2 ha au (pa ++ R))) = (sc, j2 ha au (pa ++ R)) := by
    rw [hR]
    by_cases hs : sc = []
    · subst hs
      simp only [j1, ne_eq, not_true_eq_false, if_false]
      unfold s1
      rw [if_neg ?_]
      rintro ⟨x1, x2⟩
      cases ha with
      | true => simp [j2, hd, SS] at x1
      | false =>
        unfold Rooted at hr
        simp only [Bool.false_eq_true, if_false] at hr
        simp only [j2, Bool.false_eq_true, if_false] at x1 x2
        have hr2 := hr.2.resolve_left (by simp)
        apply hr2
        have e := hd_tl SS (pa ++ j4 hq qu (j5 hf fr))
        have t2 := head_tail x2
        have fs := hd_free SS (pa ++ j4 hq qu (j5 hf fr))
        obtain ⟨A, hA⟩ : ∃ A, A = hd SS (pa ++ j4 hq qu (j5 hf fr)) := ⟨_, rfl⟩
        obtain ⟨B, hB⟩ : ∃ B, B = (tl SS (pa ++ j4 hq qu (j5 hf fr))).tail := ⟨_, rfl⟩
        rw [t2, ← hA, ← hB] at e
        rw [← hA] at fs x1
        have hp : ∃ C, pa = A ++ 58 :: C := by
          rcases List.append_eq_append_iff.1 e with ⟨D, hD1, hD2⟩ | ⟨D, hD1, hD2⟩
          · cases D with
            | nil =>
              rw [List.nil_append] at hD2
              rcases b4 with h | ⟨c, t, h, hc⟩
              · rw [h] at hD2; cases hD2
              · rw [h] at hD2; injection hD2 with hD2 _; simp [SP] at hc; omega
            | cons d D =>
              rw [List.cons_append] at hD2
              injection hD2 with hd1 hd2
              exact ⟨D, by rw [hD1, ← hd1]⟩
          · cases D with
            | nil =>
              rw [List.nil_append] at hD2
              rcases b4 with h | ⟨c, t, h, hc⟩
              · rw [h] at hD2; cases hD2
              · rw [h] at hD2; injection hD2 with hD2 _; simp [SP] at hc; omega
            | cons d D =>
              rcases b4 with h | ⟨c, t, h, hc⟩
              · rw [h] at hD2; cases hD2
              · rw [h, List.cons_append] at hD2
                injection hD2 with hd1 hd2
                have := fs d (by rw [hD1]; exact List.mem_append_right _ (List.mem_cons_self ..))
                rw [← hd1] at this
                exact absurd hc (by intro hc; apply this; simp [SP] at hc; simp [SS]; omega)
        obtain ⟨C, hC⟩ := hp
        have fa : Free [47, 58] A := fs.sub (by simp [SS])
        have key := hd_app [47, 58] (58 :: C) (.inr ⟨58, C, rfl, by simp⟩) A fa
        rw [← hC] at key
        refine ⟨?_, by rw [key.1]; exact x1, by rw [key.2]; rfl⟩
        rw [hC]
        cases A with
        | nil => exact absurd rfl x1
        | cons a t =>
          have : a ≠ 47 := fun h => fs a (List.mem_cons_self ..) (by rw [h]; simp [SS])
          unfold hd
          simp [this]
    · have := hd_app SS (58 :: j2 ha au (pa ++ j4 hq qu (j5 hf fr))) (.inr ⟨58, _, rfl, by simp [SS]⟩) sc f1
      simp only [j1, ne_eq, hs, not_false_eq_true, if_true, s1, this.1, this.2, List.head?_cons, List.tail_cons, and_self]
  unfold split join
  rw [← hR] at ep e4 ⊢
  simp only [e1, e2, ep.1, ep.2, e4, e5]
  rfl
end Go.Proofs.Ytgccggbokphibaa.P20
