/- The table's rows, told code point by code point. No program's walk. -/
import Derived.Test.YtonmollpimoaoaaSr
namespace Go.Proofs.Ytonmollpimoaoaa.Sa
open Go.RowKit Go.Proofs.Ytonmollpimoaoaa.Stg Go.Proofs.YtonmollpimoaoaaW.PrintWords Go.Proofs.Ytonmollpimoaoaa.PStageTells
set_option linter.unusedVariables false
set_option linter.unusedSimpArgs false
theorem w32 {x : Int} (h : -2147483648 ≤ x ∧ x ≤ 2147483647) : wrap32 x = x := by unfold wrap32; omega
theorem moreV_o (o : Int) (l : List S41) (r : Int) : moreV o o l r = l := by unfold moreV; rw [if_pos rfl]
theorem moreV_snoc (o v : Int) (l : List S41) (y : S41) (r : Int) (hr : 0 ≤ r ∧ r ≤ 1114111) (hv : v ≠ o) : moreV o v (l ++ [y]) r = if y.f1 = r - 1 ∧ y.f2 = v then l ++ [⟨y.f0, r, v⟩] else (l ++ [y]) ++ [⟨r, r, v⟩] := by
  have e1 : (l ++ [y]).getD ((l ++ [y]).length - 1) z41 = y := by
    rw [List.getD_eq_getElem?_getD, List.length_append, List.length_singleton, Nat.add_sub_cancel, List.getElem?_append_right (Nat.le_refl _), Nat.sub_self]
    rfl
  unfold moreV
  rw [if_neg hv, e1, w32 (by omega)]
  by_cases e : y.f1 = r - 1 ∧ y.f2 = v
  · rw [if_pos ⟨by simp, e⟩, if_pos e, List.length_append, List.length_singleton, Nat.add_sub_cancel, List.set_append_right _ _ (Nat.le_refl _), Nat.sub_self, List.set_cons_zero, e.2]
  · rw [if_neg (fun h => e h.2), if_neg e]
theorem moreV_nil (o v : Int) (r : Int) (hv : v ≠ o) : moreV o v [] r = [⟨r, r, v⟩] := by
  unfold moreV
  rw [if_neg hv, if_neg (fun e => e.1 rfl)]
  rfl
/-- All code points below. -/
def foldR (o : Int) (V : Nat → Int) (n : Nat) : List S41 := (List.range n).foldl (fun l r => moreV o (V r) l (r : Int)) []
theorem foldR_succ (o : Int) (V : Nat → Int) (n : Nat) : foldR o V (n + 1) = moreV o (V n) (foldR o V n) (n : Int) := by
  unfold foldR
  rw [List.range_succ, List.foldl_append]
  rfl
/-- Rows tell a value for all code points below. -/
theorem inn_fold (o : Int) (V : Nat → Int) (s : St) (b : Nat) (hV : ∀ r, r < 1114112 → getS o s ((r : Nat) : Int) = V r) (hb : b < 4352) : ∀ i, i ≤ 256 → innS o s b (foldR o V (256 * b)) i = foldR o V (256 * b + i)
  | 0, _ => rfl
  | i + 1, h => by
    rw [innS_succ, inn_fold o V s b hV hb i (by omega), hV _ (by omega), ← Nat.add_assoc, foldR_succ]
theorem skip_fold (o : Int) (V : Nat → Int) (n : Nat) : ∀ i, (∀ k, k < i → V (n + k) = o) → foldR o V (n + i) = foldR o V n
  | 0, _ => rfl
  | i + 1, h => by
    rw [← Nat.add_assoc, foldR_succ, h i (by omega), moreV_o]
    exact skip_fold o V n i (fun k hk => h k (by omega))
theorem rows_fold (o : Int) (V : Nat → Int) (s : St) (hV : ∀ r, r < 1114112 → getS o s ((r : Nat) : Int) = V r) (h0 : ∀ b, b < 4352 → s.idx.getD b 0 = 0 → ∀ k, k < 256 → V (256 * b + k) = o) : ∀ b, b ≤ 4352 → rowsS o s b = foldR o V (256 * b)
  | 0, _ => rfl
  | b + 1, h => by
    rw [rowsS_succ, rows_fold o V s hV h0 b (by omega), blkS]
    by_cases e : s.idx.getD b 0 = 0
    · rw [if_pos e, Nat.mul_add, Nat.mul_one, skip_fold o V _ 256 (h0 b (by omega) e)]
    · rw [if_neg e, inn_fold o V s b hV (by omega) 256 (Nat.le_refl _), Nat.mul_add, Nat.mul_one]
theorem val_append (o : Int) (x : Nat) : ∀ (a b : List Row3), val o (a ++ b) x = val (val o b x) a x
  | [], _ => rfl
  | y :: t, b => by
    show (if _ then _ else val o (t ++ b) x) = (if _ then _ else val (val o b x) t x)
    rw [val_append o x t b]
theorem chk_snoc : ∀ (l : List S41) (last : Int) (z : S41), chk last l = 0 → (∀ y ∈ l, y.f1 < z.f0) → last < z.f0 → 0 ≤ z.f0 ∧ z.f0 ≤ z.f1 ∧ z.f1 ≤ 1114111 → chk last (l ++ [z]) = 0
  | [], last, z, _, _, h1, h2 => by
    show chk last [z] = 0
    unfold chk
    rw [if_neg (by omega), if_neg (by omega)]
    rfl
  | y :: t, last, z, h, hy, h1, h2 => by
    unfold chk at h
    rw [List.cons_append]
    unfold chk
    split at h
    · cases h
    · rename_i e1
      split at h
      · cases h
      · rename_i e2
        rw [if_neg e1, if_neg e2]
        exact chk_snoc t y.f1 z h (fun w hw => hy w (List.mem_cons_of_mem _ hw)) (hy y (List.mem_cons_self ..)) h2
theorem chk_ext : ∀ (l : List S41) (last : Int) (y : S41) (r v : Int), chk last (l ++ [y]) = 0 → y.f1 ≤ r → r ≤ 1114111 → chk last (l ++ [⟨y.f0, r, v⟩]) = 0
  | [], last, y, r, v, h, h1, h2 => by
    replace h : chk last [y] = 0 := h
    show chk last [⟨y.f0, r, v⟩] = 0
    unfold chk at h ⊢
    split at h
    · cases h
    · rename_i e1
      split at h
      · cases h
      · rename_i e2
        rw [if_neg (by simp only; omega), if_neg e2]
        rfl
  | z :: t, last, y, r, v, h, h1, h2 => by
    rw [List.cons_append] at h ⊢
    unfold chk at h ⊢
    split at h
    · cases h
    · rename_i e1
      split at h
      · cases h
      · rename_i e2
        rw [if_neg e1, if_neg e2]
        exact chk_ext t z.f1 y r v h h1 h2
/-- What the rows of the code points below say. -/
structure Up (o : Int) (V : Nat → Int) (n : Nat) (A : List S41) : Prop where
  ck : chk (-1) A = 0
  lt : ∀ y ∈ A, 0 ≤ y.f0 ∧ y.f0 ≤ y.f1 ∧ y.f1 < (n : Int)
  vl : ∀ x, x < n → val o (rows3 A) x = V x
  vs : ∀ y ∈ A, ∃ x, y.f2 = V x
theorem out_none {n : Nat} {A : List S41} (h : ∀ y ∈ A, 0 ≤ y.f0 ∧ y.f0 ≤ y.f1 ∧ y.f1 < (n : Int)) (d : Int) : val d (rows3 A) n = d := by
  refine val_none d _ n ?_
  rintro ⟨z, hz, e⟩
  obtain ⟨y, hy, rfl⟩ := List.mem_map.1 hz
  have := h y hy
  have e2 : n ≤ y.f1.toNat := e.2
  omega
theorem up_more (o : Int) (V : Nat → Int) (n : Nat) (A : List S41) (h : Up o V n A) (hn : n < 1114112) : Up o V (n + 1) (moreV o (V n) A (n : Int)) := by
  have vn : ∀ d, val d (rows3 A) n = d := out_none h.lt
  have app : V n ≠ o → Up o V (n + 1) (A ++ [⟨n, n, V n⟩]) := fun hv => by
    refine ⟨chk_snoc A (-1) _ h.ck (fun y hy => (h.lt y hy).2.2) (by show (-1 : Int) < (n : Int); omega) ⟨by show (0 : Int) ≤ (n : Int); omega, Int.le_refl _, by show (n : Int) ≤ _; omega⟩, fun y hy => ?_, fun x hx => ?_, fun y hy => ?_⟩
    · rcases List.mem_append.1 hy with hy | hy
      · have := h.lt y hy; omega
      · rw [List.mem_singleton.1 hy]
        exact ⟨by show (0 : Int) ≤ (n : Int); omega, Int.le_refl _, by show (n : Int) < _; omega⟩
    · unfold rows3
      rw [List.map_append, val_append]
      show val (if ((n : Int)).toNat ≤ x ∧ x ≤ ((n : Int)).toNat then V n else o) (rows3 A) x = _
      rw [Int.toNat_natCast]
      by_cases e : x = n
      · subst e
        rw [vn, if_pos (by omega)]
      · rw [if_neg (by omega)]
        exact h.vl x (by omega)
    · rcases List.mem_append.1 hy with hy | hy
      · exact h.vs y hy
      · rw [List.mem_singleton.1 hy]; exact ⟨n, rfl⟩
  by_cases hv : V n = o
  · rw [hv, moreV_o]
    refine ⟨h.ck, fun y hy => ?_, fun x hx => ?_, h.vs⟩
    · have := h.lt y hy; omega
    · by_cases e : x = n
      · subst e; rw [vn, hv]
      · exact h.vl x (by omega)
  · rcases List.eq_nil_or_concat A with rfl | ⟨B, y, rfl⟩
    · rw [moreV_nil o _ _ hv]
      exact app hv
    · rw [List.concat_eq_append] at *
      rw [moreV_snoc o _ B y _ (by omega) hv]
      by_cases e : y.f1 = (n : Int) - 1 ∧ y.f2 = V n
      · rw [if_pos e]
        have hy := h.lt y (by simp)
        refine ⟨chk_ext B (-1) y n _ h.ck (by omega) (by omega), fun z hz => ?_, fun x hx => ?_, fun z hz => ?_⟩
        · rcases List.mem_append.1 hz with hz | hz
          · have := h.lt z (List.mem_append_left _ hz); omega
          · rw [List.mem_singleton.1 hz]
            exact ⟨hy.1, by show y.f0 ≤ (n : Int); omega, by show (n : Int) < _; omega⟩
        · have hB : ∀ d, val d (rows3 B) n = d := out_none (fun z hz => h.lt z (List.mem_append_left _ hz))
          unfold rows3
          rw [List.map_append, val_append]
          show val (if y.f0.toNat ≤ x ∧ x ≤ ((n : Int)).toNat then V n else o) (rows3 B) x = _
          rw [Int.toNat_natCast]
          by_cases e2 : x = n
          · subst e2
            rw [hB, if_pos (by omega)]
          · have := h.vl x (by omega)
            unfold rows3 at this
            rw [List.map_append, val_append] at this
            rw [← this]
            show _ = val (if y.f0.toNat ≤ x ∧ x ≤ y.f1.toNat then y.f2 else o) (rows3 B) x
            by_cases e3 : y.f0.toNat ≤ x
            · rw [if_pos (by omega), if_pos (by omega), e.2]
            · rw [if_neg (by omega), if_neg (by omega)]
        · rcases List.mem_append.1 hz with hz | hz
          · exact h.vs z (List.mem_append_left _ hz)
          · rw [List.mem_singleton.1 hz]; exact ⟨n, rfl⟩
      · rw [if_neg e]
        exact app hv
theorem up_fold (o : Int) (V : Nat → Int) : ∀ n, n ≤ 1114112 → Up o V n (foldR o V n)
  | 0, _ => ⟨rfl, fun y hy => (by cases hy), fun x hx => (by omega), fun y hy => (by cases hy)⟩
  | n + 1, h => by
    rw [foldR_succ]
    exact up_more o V n _ (up_fold o V n (by omega)) (by omega)
end Go.Proofs.Ytonmollpimoaoaa.Sa
