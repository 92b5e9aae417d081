/- The stage's plain law: what the maker's steps leave tells each code point's value. No program. -/
namespace Go.Proofs.Ytonmollpimoaoaa.Stg
set_option linter.unusedVariables false
def putR {α : Type} (v : α) : Nat → Nat → List α → List α
  | 0, _, l => l
  | n + 1, i, l => putR v n (i + 1) (l.set i v)
theorem putR_len {α : Type} (v : α) : ∀ (n i : Nat) (l : List α), (putR v n i l).length = l.length
  | 0, _, _ => rfl
  | n + 1, i, l => by rw [putR, putR_len v n]; simp
theorem set_getD {α : Type} (l : List α) (i j : Nat) (v d : α) : (l.set i v).getD j d = if i = j ∧ j < l.length then v else l.getD j d := by
  rw [List.getD_eq_getElem?_getD, List.getD_eq_getElem?_getD, List.getElem?_set]
  by_cases h : i = j
  · subst h
    by_cases h2 : i < l.length
    · simp [h2]
    · simp [h2]
  · simp [h]
theorem putR_getD {α : Type} (v d : α) : ∀ (n i : Nat) (l : List α) (j : Nat), (putR v n i l).getD j d = if i ≤ j ∧ j < i + n ∧ j < l.length then v else l.getD j d
  | 0, i, l, j => by rw [putR, if_neg (by omega)]
  | n + 1, i, l, j => by
    rw [putR, putR_getD v d n (i + 1) (l.set i v) j, List.length_set, set_getD]
    by_cases h : i = j ∧ j < l.length
    · rw [if_neg (by omega), if_pos h, if_pos (by omega)]
    · rw [if_neg h]
      by_cases h2 : i + 1 ≤ j ∧ j < i + 1 + n ∧ j < l.length
      · rw [if_pos h2, if_pos (by omega)]
      · rw [if_neg h2, if_neg (by omega)]
structure St where
  idx : List Nat
  blks : List (List Int)
  cur : Nat
  now : List Int
def addB (bs : List (List Int)) (b : List Int) : List (List Int) := if b ∈ bs then bs else bs ++ [b]
theorem addB_lt (bs : List (List Int)) (b : List Int) : bs.idxOf b < (addB bs b).length := by
  unfold addB
  split
  · rename_i h
    exact List.idxOf_lt_length_of_mem h
  · rename_i h
    rw [List.idxOf_eq_length h]
    simp
theorem addB_get (bs : List (List Int)) (b : List Int) : (addB bs b).getD (bs.idxOf b) [] = b := by
  unfold addB
  split
  · rename_i h
    have hl := List.idxOf_lt_length_of_mem h
    rw [List.getD_eq_getElem?_getD, List.getElem?_eq_getElem hl]
    simp
  · rename_i h
    rw [List.idxOf_eq_length h]
    simp
theorem addB_old (bs : List (List Int)) (b : List Int) (i : Nat) (h : i < bs.length) : (addB bs b).getD i [] = bs.getD i [] := by
  unfold addB
  split
  · rfl
  · rw [List.getD_eq_getElem?_getD, List.getElem?_append_left h, List.getD_eq_getElem?_getD]
theorem addB_le (bs : List (List Int)) (b : List Int) : bs.length ≤ (addB bs b).length ∧ (addB bs b).length ≤ bs.length + 1 := by
  unfold addB
  split <;> simp
theorem addB_mem (bs : List (List Int)) (b c : List Int) (h : c ∈ addB bs b) : c ∈ bs ∨ c = b := by
  unfold addB at h
  split at h
  · exact .inl h
  · rcases List.mem_append.1 h with h | h
    · exact .inl h
    · exact .inr (List.mem_singleton.1 h)
def rep (v : Int) : List Int := List.replicate 256 v
theorem rep_getD (v : Int) (i : Nat) (h : i < 256) : (rep v).getD i 0 = v := by
  unfold rep
  rw [List.getD_eq_getElem?_getD, List.getElem?_replicate, if_pos h]
  rfl
def F (st : St) (r : Nat) : Int := if r / 256 = st.cur then st.now.getD (r % 256) 0 else (st.blks.getD (st.idx.getD (r / 256) 0) []).getD (r % 256) 0
def done (st : St) : St := { st with idx := st.idx.set st.cur (st.blks.idxOf st.now), blks := addB st.blks st.now }
def turn (o : Int) (st : St) (b : Nat) : St := if b = st.cur then st else { done st with cur := b, now := rep o }
def whole (o : Int) (st : St) (b k : Nat) (v : Int) : St :=
  { idx := putR ((turn o st b).blks.idxOf (rep v)) k b (turn o st b).idx, blks := addB (turn o st b).blks (rep v), cur := b + k - 1, now := rep v }
def part (o : Int) (st : St) (fr n : Nat) (v : Int) : St := { turn o st (fr / 256) with now := putR v n (fr % 256) (turn o st (fr / 256)).now }
structure Inv (o : Int) (st : St) (c : Nat) : Prop where
  li : st.idx.length = 4352
  ln : st.now.length = 256
  lb : ∀ b ∈ st.blks, b.length = 256
  b0 : st.blks.getD 0 [] = rep o
  bp : 0 < st.blks.length
  ca : st.cur < 4352
  ac : st.cur * 256 ≤ c
  ac0 : 0 < c → st.cur * 256 < c
  ic : ∀ b, st.idx.getD b 0 < st.blks.length
  hi : ∀ b, st.cur < b → st.idx.getD b 0 = 0
  nw : ∀ r, c ≤ r → r / 256 = st.cur → st.now.getD (r % 256) 0 = o
  nb : st.blks.length ≤ 2 * st.cur + 2
  nb0 : c = 0 → st.blks.length = 1
theorem turn_F {o : Int} {st : St} {c b : Nat} (h : Inv o st c) (hb : st.cur ≤ b) (r : Nat) : F (turn o st b) r = F st r := by
  unfold turn
  by_cases e : b = st.cur
  · rw [if_pos e]
  · rw [if_neg e]
    unfold F done
    simp only
    by_cases h1 : r / 256 = b
    · rw [if_pos h1, if_neg (by omega), rep_getD o _ (Nat.mod_lt _ (by decide)), h.hi _ (by omega), h.b0, rep_getD o _ (Nat.mod_lt _ (by decide))]
    · rw [if_neg h1, set_getD]
      by_cases h2 : r / 256 = st.cur
      · have := h.li
        have := h.ca
        rw [if_pos h2, if_pos (by omega), addB_get]
      · rw [if_neg h2, if_neg (by omega), addB_old _ _ _ (h.ic _)]
section
variable {o : Int} {st : St} {c b : Nat}
theorem turn_cur (o : Int) (st : St) (b : Nat) : (turn o st b).cur = b := by
  unfold turn
  split
  · rename_i e
    exact e.symm
  · rfl
theorem turn_li (h : Inv o st c) : (turn o st b).idx.length = 4352 := by
  unfold turn
  split
  · exact h.li
  · show (st.idx.set _ _).length = _
    rw [List.length_set]
    exact h.li
theorem turn_ln (h : Inv o st c) : (turn o st b).now.length = 256 := by
  unfold turn
  split
  · exact h.ln
  · exact List.length_replicate
theorem turn_lb (h : Inv o st c) : ∀ x ∈ (turn o st b).blks, x.length = 256 := by
  unfold turn
  split
  · exact h.lb
  · intro x hx
    rcases addB_mem _ _ _ hx with hx | hx
    · exact h.lb x hx
    · rw [hx]; exact h.ln
theorem turn_len (h : Inv o st c) (hb : st.cur ≤ b) : st.blks.length ≤ (turn o st b).blks.length ∧ (turn o st b).blks.length ≤ st.blks.length + 1 ∧ (b = st.cur → (turn o st b).blks.length = st.blks.length) := by
  unfold turn
  split
  · exact ⟨Nat.le_refl _, Nat.le_succ _, fun _ => rfl⟩
  · rename_i e
    exact ⟨(addB_le _ _).1, (addB_le _ _).2, fun e' => absurd e' e⟩
theorem turn_old (h : Inv o st c) (i : Nat) (hi : i < st.blks.length) : (turn o st b).blks.getD i [] = st.blks.getD i [] := by
  unfold turn
  split
  · rfl
  · exact addB_old _ _ _ hi
theorem turn_ic (h : Inv o st c) : ∀ x, (turn o st b).idx.getD x 0 < (turn o st b).blks.length := by
  unfold turn
  split
  · exact h.ic
  · intro x
    show (st.idx.set _ _).getD x 0 < (addB _ _).length
    rw [set_getD]
    split
    · exact addB_lt _ _
    · exact Nat.lt_of_lt_of_le (h.ic x) (addB_le _ _).1
theorem turn_hi (h : Inv o st c) (hb : st.cur ≤ b) : ∀ x, b < x → (turn o st b).idx.getD x 0 = 0 := by
  unfold turn
  split
  · rename_i e
    intro x hx
    exact h.hi x (by omega)
  · intro x hx
    show (st.idx.set _ _).getD x 0 = 0
    rw [set_getD, if_neg (by omega)]
    exact h.hi x (by omega)
theorem turn_nw (h : Inv o st c) : ∀ r, c ≤ r → r / 256 = b → (turn o st b).now.getD (r % 256) 0 = o := by
  unfold turn
  split
  · rename_i e
    intro r hr hb
    exact h.nw r hr (by omega)
  · intro r hr hb
    exact rep_getD o _ (Nat.mod_lt _ (by decide))
theorem part_inv {f n : Nat} {v : Int} (h : Inv o st c) (hc : c ≤ f) (hn : 0 < n) (hf : f % 256 + n ≤ 256) (hb : f / 256 < 4352) : Inv o (part o st f n v) (f + n) := by
  have hcur : st.cur ≤ f / 256 := by have := h.ac; omega
  have hl := turn_len h hcur
  refine ⟨turn_li h, ?_, turn_lb h, (turn_old h 0 h.bp).trans h.b0, Nat.lt_of_lt_of_le h.bp hl.1, ?_, ?_, ?_, turn_ic h, ?_, ?_, ?_, ?_⟩
  · show (putR _ _ _ _).length = _
    rw [putR_len]
    exact turn_ln h
  · show (turn o st (f / 256)).cur < _
    rw [turn_cur]
    exact hb
  · show (turn o st (f / 256)).cur * 256 ≤ _
    rw [turn_cur]
    omega
  · intro _
    show (turn o st (f / 256)).cur * 256 < _
    rw [turn_cur]
    omega
  · intro x hx
    replace hx : (turn o st (f / 256)).cur < x := hx
    rw [turn_cur] at hx
    exact turn_hi h hcur x hx
  · intro r hr hrb
    replace hrb : r / 256 = (turn o st (f / 256)).cur := hrb
    rw [turn_cur] at hrb
    show (putR _ _ _ _).getD _ _ = _
    rw [putR_getD, if_neg (by omega)]
    exact turn_nw h r (by omega) hrb
  · show (turn o st (f / 256)).blks.length ≤ 2 * (turn o st (f / 256)).cur + 2
    rw [turn_cur]
    have := h.nb
    by_cases e : f / 256 = st.cur
    · rw [hl.2.2 e, e]; exact h.nb
    · omega
  · intro e; omega
theorem part_F {f n : Nat} {v : Int} (h : Inv o st c) (hc : c ≤ f) (hf : f % 256 + n ≤ 256) (r : Nat) : F (part o st f n v) r = if f ≤ r ∧ r < f + n then v else F st r := by
  have hcur : st.cur ≤ f / 256 := by have := h.ac; omega
  rw [← turn_F h hcur r]
  unfold F part
  simp only
  rw [turn_cur]
  by_cases h1 : r / 256 = f / 256
  · have hl := turn_ln h (b := f / 256)
    rw [if_pos h1, if_pos h1, putR_getD]
    by_cases h2 : f ≤ r ∧ r < f + n
    · rw [if_pos h2, if_pos (by omega)]
    · rw [if_neg h2, if_neg (by omega)]
  · rw [if_neg h1, if_neg h1, if_neg (by omega)]
theorem whole_inv {k : Nat} {v : Int} (h : Inv o st c) (hc : c ≤ b * 256) (hk : 0 < k) (hb : b + k ≤ 4352) : Inv o (whole o st b k v) ((b + k) * 256) := by
  have hcur : st.cur ≤ b := by have := h.ac; omega
  have hl := turn_len h hcur
  refine ⟨?_, List.length_replicate, ?_, ?_, ?_, ?_, ?_, ?_, ?_, ?_, ?_, ?_, ?_⟩
  · show (putR _ _ _ _).length = _
    rw [putR_len]
    exact turn_li h
  · intro x hx
    rcases addB_mem _ _ _ hx with hx | hx
    · exact turn_lb h x hx
    · rw [hx]; exact List.length_replicate
  · show (addB _ _).getD 0 [] = _
    rw [addB_old _ _ _ (Nat.lt_of_lt_of_le h.bp hl.1), turn_old h 0 h.bp]
    exact h.b0
  · exact Nat.lt_of_lt_of_le (Nat.lt_of_lt_of_le h.bp hl.1) (addB_le _ _).1
  · show b + k - 1 < 4352
    omega
  · show (b + k - 1) * 256 ≤ _
    omega
  · intro _
    show (b + k - 1) * 256 < _
    omega
  · intro x
    show (putR _ _ _ _).getD x 0 < (addB _ _).length
    rw [putR_getD]
    split
    · exact addB_lt _ _
    · exact Nat.lt_of_lt_of_le (turn_ic h x) (addB_le _ _).1
  · intro x hx
    replace hx : b + k - 1 < x := hx
    show (putR _ _ _ _).getD x 0 = 0
    rw [putR_getD, if_neg (by omega)]
    exact turn_hi h hcur x (by omega)
  · intro r hr hrb
    replace hrb : r / 256 = b + k - 1 := hrb
    omega
  · show (addB _ _).length ≤ 2 * (b + k - 1) + 2
    have h3 := (addB_le (turn o st b).blks (rep v)).2
    have h4 := h.nb
    by_cases e : b = st.cur
    · have h5 := hl.2.2 e
      by_cases hc0 : c = 0
      · have := h.nb0 hc0
        omega
      · have := h.ac0 (by omega)
        omega
    · omega
  · intro e; omega
theorem whole_F {k : Nat} {v : Int} (h : Inv o st c) (hc : c ≤ b * 256) (hk : 0 < k) (hb : b + k ≤ 4352) (r : Nat) : F (whole o st b k v) r = if b * 256 ≤ r ∧ r < (b + k) * 256 then v else F st r := by
  have hcur : st.cur ≤ b := by have := h.ac; omega
  have hli := turn_li h (b := b)
  rw [← turn_F h hcur r]
  unfold F whole
  simp only
  rw [turn_cur]
  by_cases h1 : r / 256 = b + k - 1
  · rw [if_pos h1, if_pos (by omega), rep_getD v _ (Nat.mod_lt _ (by decide))]
  · rw [if_neg h1, putR_getD]
    by_cases h2 : b * 256 ≤ r ∧ r < (b + k) * 256
    · rw [if_pos h2, if_pos (by omega), addB_get, rep_getD v _ (Nat.mod_lt _ (by decide))]
    · rw [if_neg h2, if_neg (by omega), if_neg (by omega), addB_old _ _ _ (turn_ic h _)]
end
/-- A row is laid: fuel for its steps. -/
def lay (o v : Int) (to : Nat) : Nat → Nat → St → St
  | 0, _, st => st
  | n + 1, f, st =>
    if to < f then st
    else if f % 256 = 0 ∧ f + 255 ≤ to then lay o v to n ((to + 1) / 256 * 256) (whole o st (f / 256) ((to + 1) / 256 - f / 256) v)
    else lay o v to n (min to (f / 256 * 256 + 255) + 1) (part o st f (min to (f / 256 * 256 + 255) + 1 - f) v)
theorem lay_ok (o v : Int) (to : Nat) (ht : to ≤ 1114111) : ∀ (n f : Nat) (st : St) (c : Nat), to + 1 - f ≤ n → c ≤ f → f ≤ to + 1 → Inv o st c → (∃ c', c' ≤ to + 1 ∧ (f ≤ to → c' = to + 1) ∧ (to < f → c' = c) ∧ Inv o (lay o v to n f st) c') ∧ ∀ r, F (lay o v to n f st) r = if f ≤ r ∧ r ≤ to then v else F st r
  | 0, f, st, c, hn, hc, hf, h => ⟨⟨c, by omega, fun e => by omega, fun _ => rfl, h⟩, fun r => by rw [lay, if_neg (by omega)]⟩
  | n + 1, f, st, c, hn, hc, hf, h => by
    rw [lay]
    by_cases e : to < f
    · rw [if_pos e]
      exact ⟨⟨c, by omega, fun e => by omega, fun _ => rfl, h⟩, fun r => by rw [if_neg (by omega)]⟩
    · rw [if_neg e]
      by_cases e2 : f % 256 = 0 ∧ f + 255 ≤ to
      · rw [if_pos e2]
        have hc2 : c ≤ f / 256 * 256 := by omega
        have hk : 0 < (to + 1) / 256 - f / 256 := by omega
        have hb : f / 256 + ((to + 1) / 256 - f / 256) ≤ 4352 := by omega
        have hI := whole_inv (v := v) h hc2 hk hb
        have hcc : (f / 256 + ((to + 1) / 256 - f / 256)) * 256 = (to + 1) / 256 * 256 := by congr 1; omega
        rw [hcc] at hI
        obtain ⟨⟨c', h1, h2, h3, h4⟩, h5⟩ := lay_ok o v to ht n ((to + 1) / 256 * 256) (whole o st (f / 256) ((to + 1) / 256 - f / 256) v) _ (by omega) (Nat.le_refl _) (by omega) hI
        refine ⟨⟨c', h1, fun _ => ?_, fun e' => absurd e' e, h4⟩, fun r => ?_⟩
        · by_cases e3 : (to + 1) / 256 * 256 ≤ to
          · exact h2 e3
          · have := h3 (by omega); omega
        · rw [h5, whole_F h hc2 hk hb, hcc]
          by_cases e4 : (to + 1) / 256 * 256 ≤ r ∧ r ≤ to
          · rw [if_pos e4, if_pos (by omega)]
          · rw [if_neg e4]
            by_cases e5 : f / 256 * 256 ≤ r ∧ r < (to + 1) / 256 * 256
            · rw [if_pos e5, if_pos (by omega)]
            · rw [if_neg e5, if_neg (by omega)]
      · rw [if_neg e2]
        have hm : min to (f / 256 * 256 + 255) = if to ≤ f / 256 * 256 + 255 then to else f / 256 * 256 + 255 := by rw [Nat.min_def]
        generalize min to (f / 256 * 256 + 255) = e3 at hm
        have he : f ≤ e3 ∧ e3 ≤ to ∧ e3 ≤ f / 256 * 256 + 255 := by
          split at hm <;> omega
        have hI := part_inv (v := v) (n := e3 + 1 - f) h hc (by omega) (by omega) (by omega)
        rw [show f + (e3 + 1 - f) = e3 + 1 by omega] at hI
        obtain ⟨⟨c', h1, h2, h3, h4⟩, h5⟩ := lay_ok o v to ht n (e3 + 1) (part o st f (e3 + 1 - f) v) _ (by omega) (Nat.le_refl _) (by omega) hI
        refine ⟨⟨c', h1, fun _ => ?_, fun e' => absurd e' e, h4⟩, fun r => ?_⟩
        · by_cases e4 : e3 + 1 ≤ to
          · exact h2 e4
          · have := h3 (by omega); omega
        · rw [h5, part_F h hc (by omega)]
          by_cases e4 : e3 + 1 ≤ r ∧ r ≤ to
          · rw [if_pos e4, if_pos (by omega)]
          · rw [if_neg e4]
            by_cases e5 : f ≤ r ∧ r < f + (e3 + 1 - f)
            · rw [if_pos e5, if_pos (by omega)]
            · rw [if_neg e5, if_neg (by omega)]
/-- All rows: (from, to, value). -/
abbrev Row3 : Type := Nat × Nat × Int
def layR (o : Int) (st : St) (x : Row3) : St := lay o x.2.2 x.2.1 (x.2.1 + 1 - x.1) x.1 st
def st0 (o : Int) : St := ⟨List.replicate 4352 0, [rep o], 0, rep o⟩
def build (o : Int) (l : List Row3) : St := done (l.foldl (layR o) (st0 o))
/-- The rows may be: in order, apart. -/
def Good : Nat → List Row3 → Prop
  | _, [] => True
  | c, x :: t => c ≤ x.1 ∧ x.1 ≤ x.2.1 ∧ x.2.1 ≤ 1114111 ∧ Good (x.2.1 + 1) t
def val (o : Int) : List Row3 → Nat → Int
  | [], _ => o
  | x :: t, r => if x.1 ≤ r ∧ r ≤ x.2.1 then x.2.2 else val o t r
theorem st0_inv (o : Int) : Inv o (st0 o) 0 := by
  refine ⟨List.length_replicate, List.length_replicate, ?_, rfl, by show (0 : Nat) < 1; decide, by show (0 : Nat) < _; decide, by show 0 * 256 ≤ 0; decide, fun h => by omega, ?_, ?_, ?_, by show (1 : Nat) ≤ 2; decide, fun _ => rfl⟩
  · intro b hb
    rw [List.mem_singleton.1 hb]
    exact List.length_replicate
  · intro b
    show (List.replicate 4352 0).getD b 0 < 1
    rw [List.getD_eq_getElem?_getD, List.getElem?_replicate]
    split <;> decide
  · intro b _
    show (List.replicate 4352 0).getD b 0 = 0
    rw [List.getD_eq_getElem?_getD, List.getElem?_replicate]
    split <;> rfl
  · intro r _ _
    exact rep_getD o _ (Nat.mod_lt _ (by decide))
theorem st0_F (o : Int) (r : Nat) (h : r < 1114112) : F (st0 o) r = o := by
  unfold F st0
  simp only
  split
  · exact rep_getD o _ (Nat.mod_lt _ (by decide))
  · rw [List.getD_eq_getElem?_getD (l := List.replicate 4352 0), List.getElem?_replicate, if_pos (by omega)]
    exact rep_getD o _ (Nat.mod_lt _ (by decide))
theorem fold_ok (o : Int) : ∀ (l : List Row3) (st : St) (c : Nat), Good c l → Inv o st c → (∃ c', Inv o (l.foldl (layR o) st) c') ∧ ∀ r, F (l.foldl (layR o) st) r = if (∃ x ∈ l, x.1 ≤ r ∧ r ≤ x.2.1) then val o l r else F st r
  | [], st, c, _, h => ⟨⟨c, h⟩, fun r => by rw [if_neg (by rintro ⟨x, hx, _⟩; cases hx)]; rfl⟩
  | x :: t, st, c, hg, h => by
    obtain ⟨g1, g2, g3, g4⟩ := hg
    obtain ⟨⟨c', h1, h2, h3, h4⟩, h5⟩ := lay_ok o x.2.2 x.2.1 g3 (x.2.1 + 1 - x.1) x.1 st c (Nat.le_refl _) g1 (by omega) h
    rw [h2 g2] at h4
    obtain ⟨k1, k2⟩ := fold_ok o t (layR o st x) (x.2.1 + 1) g4 h4
    refine ⟨k1, fun r => ?_⟩
    rw [List.foldl_cons, k2]
    have hv : val o (x :: t) r = if x.1 ≤ r ∧ r ≤ x.2.1 then x.2.2 else val o t r := rfl
    have hl : ∀ (t : List Row3) (c : Nat), Good c t → ∀ y ∈ t, c ≤ y.1 := fun t => by
      induction t with
      | nil => intro c _ y hy; cases hy
      | cons z t ih =>
        intro c hg y hy
        rcases List.mem_cons.1 hy with rfl | hy
        · exact hg.1
        · have := ih _ hg.2.2.2 y hy
          have := hg.2.1
          have := hg.1
          omega
    by_cases e : ∃ y ∈ t, y.1 ≤ r ∧ r ≤ y.2.1
    · obtain ⟨y, hy, hr⟩ := e
      have hyl := hl t _ g4 y hy
      rw [if_pos ⟨y, hy, hr⟩, if_pos ⟨y, List.mem_cons_of_mem _ hy, hr⟩, hv, if_neg (by omega)]
    · rw [if_neg e]
      have hF := h5 r
      show F (layR o st x) r = _
      rw [show F (layR o st x) r = _ from hF]
      by_cases e2 : x.1 ≤ r ∧ r ≤ x.2.1
      · rw [if_pos e2, if_pos ⟨x, List.mem_cons_self .., e2⟩, hv, if_pos e2]
      · rw [if_neg e2, if_neg (by
          rintro ⟨y, hy, hr⟩
          rcases List.mem_cons.1 hy with rfl | hy
          · exact e2 hr
          · exact e ⟨y, hy, hr⟩)]
theorem val_none (o : Int) : ∀ (l : List Row3) (r : Nat), (¬ ∃ x ∈ l, x.1 ≤ r ∧ r ≤ x.2.1) → val o l r = o
  | [], _, _ => rfl
  | x :: t, r, h => by
    show (if _ then _ else _) = _
    rw [if_neg (fun e => h ⟨x, List.mem_cons_self .., e⟩)]
    exact val_none o t r (fun ⟨y, hy, e⟩ => h ⟨y, List.mem_cons_of_mem _ hy, e⟩)
/-- What is built tells each code point's value. -/
theorem build_get (o : Int) (l : List Row3) (hg : Good 0 l) (r : Nat) (hr : r < 1114112) : ((build o l).blks.getD ((build o l).idx.getD (r / 256) 0) []).getD (r % 256) 0 = val o l r := by
  obtain ⟨⟨c, hI⟩, hF⟩ := fold_ok o l (st0 o) 0 hg (st0_inv o)
  have h1 := hF r
  have h2 : F (l.foldl (layR o) (st0 o)) r = val o l r := by
    rw [h1]
    split
    · rfl
    · rename_i e
      rw [st0_F o r hr, val_none o l r e]
  rw [← h2]
  unfold build F done
  simp only
  rw [set_getD]
  by_cases e : r / 256 = (l.foldl (layR o) (st0 o)).cur
  · have := hI.li
    have := hI.ca
    rw [if_pos e, if_pos (by omega), addB_get]
  · rw [if_neg e, if_neg (by omega), addB_old _ _ _ (hI.ic _)]
end Go.Proofs.Ytonmollpimoaoaa.Stg
