/- How many unlike blocks. No program's walk. -/
import Derived.Test.YtonmollpimoaoaaSv
namespace Go.Proofs.Ytonmollpimoaoaa.Sa
open Go.RowKit Go.Proofs.Ytonmollpimoaoaa.Stg Go.Proofs.YtonmollpimoaoaaW.PrintWords Go.Proofs.Ytonmollpimoaoaa.PStageTells
set_option linter.unusedVariables false
set_option linter.unusedSimpArgs false
/-! ### At most three blocks a row -/
open Classical in
noncomputable def ph (s : St) : Nat := s.blks.length + if s.now ∈ s.blks then 0 else 1
theorem addB_ph (s : St) : (addB s.blks s.now).length = ph s := by
  unfold addB ph
  by_cases h : s.now ∈ s.blks
  · rw [if_pos h, if_pos h]; rfl
  · rw [if_neg h, if_neg h, List.length_append]; rfl
theorem addB_keep (bs : List (List Int)) (b c : List Int) (h : c ∈ bs) : c ∈ addB bs b := by
  unfold addB
  split
  · exact h
  · exact List.mem_append_left _ h
theorem addB_in (bs : List (List Int)) (b : List Int) : b ∈ addB bs b := by
  unfold addB
  split
  · assumption
  · exact List.mem_append_right _ (List.mem_singleton.2 rfl)
theorem addB_nd (bs : List (List Int)) (b : List Int) (h : bs.Nodup) : (addB bs b).Nodup := by
  unfold addB
  split
  · exact h
  · rename_i hb
    rw [List.nodup_append]
    exact ⟨h, by simp, fun x hx y hy e => by rw [List.mem_singleton.1 hy] at e; exact hb (e ▸ hx)⟩
/-- What all steps keep. -/
structure Nd (o : Int) (s : St) : Prop where
  nd : s.blks.Nodup
  ro : rep o ∈ s.blks
theorem le_ph (s : St) : s.blks.length ≤ ph s := Nat.le_add_right _ _
theorem ph_le (s : St) : ph s ≤ s.blks.length + 1 := by unfold ph; split <;> omega
theorem turn_nd {o : Int} {s : St} (h : Nd o s) (b : Nat) : Nd o (turn o s b) ∧ ph (turn o s b) = ph s := by
  unfold turn
  split
  · exact ⟨h, rfl⟩
  · refine ⟨⟨addB_nd _ _ h.nd, addB_keep _ _ _ h.ro⟩, ?_⟩
    show (addB s.blks s.now).length + (if rep o ∈ addB s.blks s.now then 0 else 1) = _
    rw [if_pos (addB_keep _ _ _ h.ro), addB_ph]
    rfl
theorem part_nd {o : Int} {s : St} (h : Nd o s) (f n : Nat) (v : Int) : Nd o (Stg.part o s f n v) ∧ ph (Stg.part o s f n v) ≤ ph s + 1 := by
  obtain ⟨h1, h2⟩ := turn_nd h (f / 256)
  refine ⟨⟨h1.nd, h1.ro⟩, ?_⟩
  have := ph_le (Stg.part o s f n v)
  have e : (Stg.part o s f n v).blks = (turn o s (f / 256)).blks := rfl
  rw [e] at this
  have := le_ph (turn o s (f / 256))
  omega
theorem whole_nd {o : Int} {s : St} (h : Nd o s) (b k : Nat) (v : Int) : Nd o (whole o s b k v) ∧ ph (whole o s b k v) ≤ ph s + 1 := by
  obtain ⟨h1, h2⟩ := turn_nd h b
  refine ⟨⟨addB_nd _ _ h1.nd, addB_keep _ _ _ h1.ro⟩, ?_⟩
  have e : ph (whole o s b k v) = (addB (turn o s b).blks (rep v)).length := by
    show (addB (turn o s b).blks (rep v)).length + (if rep v ∈ addB (turn o s b).blks (rep v) then 0 else 1) = _
    rw [if_pos (addB_in _ _)]
    rfl
  have := (addB_le (turn o s b).blks (rep v)).2
  have := le_ph (turn o s b)
  omega
theorem lay1 {o v : Int} {tt : Nat} : ∀ (n f : Nat) (s : St), Nd o s → f % 256 = 0 → tt < f + 255 → Nd o (lay o v tt n f s) ∧ ph (lay o v tt n f s) ≤ ph s + 1
  | 0, f, s, h, _, _ => ⟨h, Nat.le_succ _⟩
  | n + 1, f, s, h, h1, h2 => by
    rw [lay]
    by_cases e : tt < f
    · rw [if_pos e]; exact ⟨h, Nat.le_succ _⟩
    · rw [if_neg e, if_neg (by omega), show min tt (f / 256 * 256 + 255) = tt from Nat.min_eq_left (by omega)]
      obtain ⟨k1, k2⟩ := part_nd h f (tt + 1 - f) v
      cases n with
      | zero => exact ⟨k1, k2⟩
      | succ n =>
        rw [lay, if_pos (by omega)]
        exact ⟨k1, k2⟩
theorem lay2 {o v : Int} {tt : Nat} (n f : Nat) (s : St) (h : Nd o s) (h1 : f % 256 = 0) : Nd o (lay o v tt n f s) ∧ ph (lay o v tt n f s) ≤ ph s + 2 := by
  by_cases e : tt < f + 255
  · have := lay1 (v := v) n f s h h1 e
    exact ⟨this.1, by omega⟩
  · cases n with
    | zero => exact ⟨h, Nat.le_add_right _ _⟩
    | succ n =>
      rw [lay, if_neg (by omega), if_pos (by omega)]
      obtain ⟨k1, k2⟩ := whole_nd h (f / 256) ((tt + 1) / 256 - f / 256) v
      have := lay1 (v := v) (tt := tt) n ((tt + 1) / 256 * 256) _ k1 (by omega) (by omega)
      exact ⟨this.1, by omega⟩
theorem lay3 {o v : Int} {tt : Nat} (n f : Nat) (s : St) (h : Nd o s) : Nd o (lay o v tt n f s) ∧ ph (lay o v tt n f s) ≤ ph s + 3 := by
  by_cases e0 : f % 256 = 0
  · have := lay2 (v := v) (tt := tt) n f s h e0
    exact ⟨this.1, by omega⟩
  · cases n with
    | zero => exact ⟨h, Nat.le_add_right _ _⟩
    | succ n =>
      rw [lay]
      by_cases e : tt < f
      · rw [if_pos e]; exact ⟨h, by omega⟩
      · rw [if_neg e, if_neg (by omega)]
        obtain ⟨k1, k2⟩ := part_nd h f (min tt (f / 256 * 256 + 255) + 1 - f) v
        by_cases e2 : tt ≤ f / 256 * 256 + 255
        · rw [Nat.min_eq_left e2] at k1 k2 ⊢
          cases n with
          | zero => exact ⟨k1, by rw [lay]; omega⟩
          | succ n =>
            rw [lay, if_pos (by omega)]
            exact ⟨k1, by omega⟩
        · rw [Nat.min_eq_right (by omega)] at k1 k2 ⊢
          have := lay2 (v := v) (tt := tt) n (f / 256 * 256 + 255 + 1) _ k1 (by omega)
          exact ⟨this.1, by omega⟩
theorem fold_nd (o : Int) : ∀ (l : List Row3) (s : St), Nd o s → Nd o (l.foldl (layR o) s) ∧ ph (l.foldl (layR o) s) ≤ ph s + 3 * l.length
  | [], s, h => ⟨h, Nat.le_refl _⟩
  | x :: t, s, h => by
    obtain ⟨k1, k2⟩ := lay3 (v := x.2.2) (tt := x.2.1) (x.2.1 + 1 - x.1) x.1 s h
    obtain ⟨k3, k4⟩ := fold_nd o t (layR o s x) k1
    rw [List.foldl_cons, List.length_cons]
    replace k2 : ph (layR o s x) ≤ ph s + 3 := k2
    exact ⟨k3, by omega⟩
theorem build_nd (o : Int) (l : List Row3) : (build o l).blks.Nodup ∧ (build o l).blks.length ≤ 3 * l.length + 1 := by
  have h0 : Nd o (st0 o) := ⟨by show [rep o].Nodup; simp, by show rep o ∈ [rep o]; simp⟩
  obtain ⟨k1, k2⟩ := fold_nd o l (st0 o) h0
  have p0 : ph (st0 o) = 1 := by
    show [rep o].length + (if rep o ∈ [rep o] then 0 else 1) = 1
    rw [if_pos (List.mem_singleton.2 rfl)]
    rfl
  refine ⟨addB_nd _ _ k1.nd, ?_⟩
  show (addB _ _).length ≤ _
  rw [addB_ph]
  omega
/-! ### Unlike numbers -/
theorem sub_len : ∀ (u v : List Nat), u.Nodup → (∀ x ∈ u, x ∈ v) → u.length ≤ v.length
  | [], _, _, _ => Nat.zero_le _
  | x :: t, v, h, hs => by
    have hx := hs x (List.mem_cons_self ..)
    have hn := List.nodup_cons.1 h
    have := sub_len t (v.erase x) hn.2 (fun y hy => (List.mem_erase_of_ne (fun e => hn.1 (by rw [← e]; exact hy))).2 (hs y (List.mem_cons_of_mem _ hy)))
    rw [List.length_erase_of_mem hx] at this
    have := List.length_pos_of_mem hx
    rw [List.length_cons]
    omega
theorem dcS_set : ∀ (l seen : List Nat), seen.Nodup → ∃ u : List Nat, u.Nodup ∧ (∀ x, x ∈ u ↔ x ∈ l ∨ x ∈ seen) ∧ dcS l seen = u.length
  | [], seen, h => ⟨seen, h, fun x => by simp, rfl⟩
  | x :: t, seen, h => by
    rw [dcS]
    by_cases e : x ∈ seen
    · rw [if_pos (by simpa using e)]
      obtain ⟨u, h1, h2, h3⟩ := dcS_set t seen h
      refine ⟨u, h1, fun y => ?_, h3⟩
      rw [h2, List.mem_cons]
      exact ⟨fun q => q.elim (fun q => .inl (.inr q)) .inr, fun q => q.elim (fun q => q.elim (fun q => .inr (q ▸ e)) .inl) .inr⟩
    · rw [if_neg (by simpa using e)]
      obtain ⟨u, h1, h2, h3⟩ := dcS_set t (x :: seen) (List.nodup_cons.2 ⟨e, h⟩)
      refine ⟨u, h1, fun y => ?_, h3⟩
      rw [h2, List.mem_cons, List.mem_cons]
      exact ⟨fun q => q.elim (fun q => .inl (.inr q)) (fun q => q.elim (fun q => .inl (.inl q)) .inr), fun q => q.elim (fun q => q.elim (fun q => .inr (.inl q)) .inl) (fun q => .inr (.inr q))⟩
theorem dcS_le (l : List Nat) (n : Nat) (h : ∀ x ∈ l, x < n) : dcS l [] ≤ n := by
  obtain ⟨u, h1, h2, h3⟩ := dcS_set l [] List.nodup_nil
  have := sub_len u (List.range n) h1 (fun x hx => List.mem_range.2 (h x ((h2 x).1 hx |>.elim id (fun q => by cases q))))
  rw [List.length_range] at this
  omega
theorem dcS_pos (l : List Nat) (h : l ≠ []) : 1 ≤ dcS l [] := by
  obtain ⟨u, h1, h2, h3⟩ := dcS_set l [] List.nodup_nil
  cases l with
  | nil => exact absurd rfl h
  | cons x t =>
    have := List.length_pos_of_mem ((h2 x).2 (.inl (List.mem_cons_self ..)))
    omega
theorem dcS_pairs : ∀ (p q : List (Nat × Nat)), (∀ x ∈ p ++ q, ∀ y ∈ p ++ q, x.1 = y.1 ↔ x.2 = y.2) → dcS (p.map Prod.fst) (q.map Prod.fst) = dcS (p.map Prod.snd) (q.map Prod.snd)
  | [], q, _ => by
    show (q.map _).length = (q.map _).length
    rw [List.length_map, List.length_map]
  | x :: t, q, h => by
    rw [List.map_cons, List.map_cons, dcS, dcS]
    have hx : ((q.map Prod.fst).contains x.1) = ((q.map Prod.snd).contains x.2) := by
      rw [Bool.eq_iff_iff]
      simp only [List.contains_iff_mem, List.mem_map]
      exact ⟨fun ⟨y, hy, e⟩ => ⟨y, hy, (h y (by simp [hy]) x (by simp)).1 e⟩, fun ⟨y, hy, e⟩ => ⟨y, hy, (h y (by simp [hy]) x (by simp)).2 e⟩⟩
    rw [hx]
    have i1 := dcS_pairs t q (fun a ha b hb => h a (by rw [List.cons_append]; exact List.mem_cons_of_mem _ ha) b (by rw [List.cons_append]; exact List.mem_cons_of_mem _ hb))
    have i2 := dcS_pairs t (x :: q) (fun a ha b hb => h a (by simp only [List.mem_append, List.mem_cons] at ha ⊢; rcases ha with ha | ha | ha <;> simp [ha]) b (by simp only [List.mem_append, List.mem_cons] at hb ⊢; rcases hb with hb | hb | hb <;> simp [hb]))
    rw [i1, show x.1 :: q.map Prod.fst = (x :: q).map Prod.fst from rfl, i2]
    rfl
theorem dcS_same (a b : List Nat) (n : Nat) (ha : a.length = n) (hb : b.length = n) (h : ∀ i j, i < n → j < n → (a.getD i 0 = a.getD j 0 ↔ b.getD i 0 = b.getD j 0)) : dcS a [] = dcS b [] := by
  have e1 : a = ((List.range n).map fun i => (a.getD i 0, b.getD i 0)).map Prod.fst := by
    apply List.ext_getElem
    · simp [ha]
    · intro i h1 h2
      simp [List.getD_eq_getElem?_getD, h1]
  have e2 : b = ((List.range n).map fun i => (a.getD i 0, b.getD i 0)).map Prod.snd := by
    apply List.ext_getElem
    · simp [hb]
    · intro i h1 h2
      simp [List.getD_eq_getElem?_getD, h1]
  have := dcS_pairs ((List.range n).map fun i => (a.getD i 0, b.getD i 0)) [] (fun x hx y hy => by
    rw [List.append_nil] at hx hy
    obtain ⟨i, hi, rfl⟩ := List.mem_map.1 hx
    obtain ⟨j, hj, rfl⟩ := List.mem_map.1 hy
    exact h i j (List.mem_range.1 hi) (List.mem_range.1 hj))
  rw [← e1, ← e2] at this
  exact this
end Go.Proofs.Ytonmollpimoaoaa.Sa
