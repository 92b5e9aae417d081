/- The table's rows are the document's. No program's walk. -/
import Derived.Test.YtonmollpimoaoaaSu
import Derived.Test.YtonmollpimoaoaaSs
namespace Go.Proofs.Ytonmollpimoaoaa.Sa
open Go.RowKit Go.Proofs.Ytonmollpimoaoaa.Stg Go.Proofs.YtonmollpimoaoaaW.PrintWords Go.Proofs.Ytonmollpimoaoaa.PStageTells
set_option linter.unusedVariables false
set_option linter.unusedSimpArgs false
def g47 (x : S41) : S47 := ⟨x.f0, x.f1, x.f2⟩
theorem fewV_nil (o : Int) (x : S47) (hv : x.f2 ≠ o) : fewV o [] x = [x] := by
  unfold fewV
  rw [if_neg hv, if_neg (fun e => e.1 rfl)]
  rfl
theorem fewV_snoc (o : Int) (l : List S47) (y x : S47) (hr : 0 ≤ x.f0 ∧ x.f0 ≤ 1114111) (hv : x.f2 ≠ o) : fewV o (l ++ [y]) x = if y.f1 = x.f0 - 1 ∧ y.f2 = x.f2 then l ++ [⟨y.f0, x.f1, x.f2⟩] else (l ++ [y]) ++ [x] := by
  have e1 : (l ++ [y]).getD ((l ++ [y]).length - 1) z47 = y := by
    rw [List.getD_eq_getElem?_getD, List.length_append, List.length_singleton, Nat.add_sub_cancel, List.getElem?_append_right (Nat.le_refl _), Nat.sub_self]
    rfl
  unfold fewV
  rw [if_neg hv, e1, w64 (by omega)]
  by_cases e : y.f1 = x.f0 - 1 ∧ y.f2 = x.f2
  · rw [if_pos ⟨by simp, e⟩, if_pos e, List.length_append, List.length_singleton, Nat.add_sub_cancel, List.set_append_right _ _ (Nat.le_refl _), Nat.sub_self, List.set_cons_zero, e.2]
  · rw [if_neg (fun h => e h.2), if_neg e]
/-- Code points from one on. -/
def foldC (o : Int) (V : Nat → Int) (c n : Nat) (A : List S41) : List S41 := (List.range' c n).foldl (fun l r => moreV o (V r) l (r : Int)) A
theorem foldC_add (o : Int) (V : Nat → Int) (c m n : Nat) (A : List S41) : foldC o V c (m + n) A = foldC o V (c + m) n (foldC o V c m A) := by
  unfold foldC
  rw [← List.foldl_append, List.range'_append_1]
theorem foldC_o (o : Int) (V : Nat → Int) : ∀ (n c : Nat) (A : List S41), (∀ r, c ≤ r → r < c + n → V r = o) → foldC o V c n A = A
  | 0, _, _, _ => rfl
  | n + 1, c, A, h => by
    unfold foldC
    rw [List.range'_succ, List.foldl_cons, h c (Nat.le_refl _) (by omega), moreV_o]
    exact foldC_o o V n (c + 1) A (fun r h1 h2 => h r (by omega) (by omega))
theorem foldC_v (o v : Int) (V : Nat → Int) (hv : v ≠ o) (p : Int) (B : List S41) : ∀ (n c : Nat), c + n ≤ 1114111 → (∀ r, c < r → r < c + 1 + n → V r = v) → foldC o V (c + 1) n (B ++ [⟨p, (c : Int), v⟩]) = B ++ [⟨p, ((c + n : Nat) : Int), v⟩]
  | 0, _, _, _ => rfl
  | n + 1, c, h1, h => by
    unfold foldC
    rw [List.range'_succ, List.foldl_cons, h (c + 1) (by omega) (by omega), moreV_snoc o v B _ _ (by omega) hv, if_pos ⟨by show (c : Int) = _; omega, rfl⟩]
    have := foldC_v o v V hv p B n (c + 1) (by omega) (fun r h2 h3 => h r (by omega) (by omega))
    unfold foldC at this
    rw [show c + (n + 1) = c + 1 + n by omega]
    exact this
theorem foldC_row (o : Int) (V : Nat → Int) (x : S41) (A : List S41) (hx : 0 ≤ x.f0 ∧ x.f0 ≤ x.f1 ∧ x.f1 ≤ 1114111) (hA : ∀ y ∈ A, y.f1 < x.f0) (hV : ∀ r : Nat, x.f0 ≤ r → (r : Int) ≤ x.f1 → V r = x.f2) :
    (foldC o V x.f0.toNat (x.f1.toNat + 1 - x.f0.toNat) A).map g47 = fewV o (A.map g47) (g47 x) ∧ ∀ y ∈ foldC o V x.f0.toNat (x.f1.toNat + 1 - x.f0.toNat) A, y.f1 < x.f1 + 1 := by
  obtain ⟨a, ha⟩ : ∃ a : Nat, x.f0 = a := ⟨x.f0.toNat, by omega⟩
  obtain ⟨n, hn⟩ : ∃ n : Nat, x.f1 = a + n := ⟨x.f1.toNat - a, by omega⟩
  rw [ha, hn, show ((a : Int) + (n : Int)).toNat + 1 - ((a : Int)).toNat = n + 1 by omega, Int.toNat_natCast]
  by_cases hv : x.f2 = o
  · rw [foldC_o o V (n + 1) a A (fun r h1 h2 => by rw [hV r (by omega) (by omega), hv])]
    refine ⟨?_, fun y hy => by have := hA y hy; omega⟩
    unfold fewV
    rw [if_pos (show (g47 x).f2 = o from hv)]
  · have st : ∀ (p : Int) (B : List S41), moreV o (V a) A (a : Int) = B ++ [⟨p, (a : Int), x.f2⟩] → foldC o V a (n + 1) A = B ++ [⟨p, x.f1, x.f2⟩] := fun p B h => by
      have := foldC_v o x.f2 V hv p B n a (by omega) (fun r h1 h2 => hV r (by omega) (by omega))
      unfold foldC at this ⊢
      rw [List.range'_succ, List.foldl_cons, h, this, hn]
      rfl
    have hVa : V a = x.f2 := hV a (by omega) (by omega)
    rw [hVa] at st
    have app : moreV o x.f2 A (a : Int) = A ++ [⟨a, a, x.f2⟩] → fewV o (A.map g47) (g47 x) = A.map g47 ++ [g47 x] → (foldC o V a (n + 1) A).map g47 = fewV o (A.map g47) (g47 x) ∧ ∀ y ∈ foldC o V a (n + 1) A, y.f1 < (a : Int) + (n : Int) + 1 := fun h1 h2 => by
      rw [st _ _ h1, h2, List.map_append]
      refine ⟨?_, fun y hy => ?_⟩
      · show _ = A.map g47 ++ [⟨x.f0, x.f1, x.f2⟩]
        rw [ha]
        rfl
      · rcases List.mem_append.1 hy with hy | hy
        · have := hA y hy; omega
        · rw [List.mem_singleton.1 hy]
          show x.f1 < _
          omega
    rcases List.eq_nil_or_concat A with rfl | ⟨B, y, rfl⟩
    · exact app (moreV_nil o _ _ hv) (fewV_nil o _ hv)
    · rw [List.concat_eq_append] at *
      have m1 := moreV_snoc o x.f2 B y (a : Int) (by omega) hv
      have m2 := fewV_snoc o (B.map g47) (g47 y) (g47 x) (by show 0 ≤ x.f0 ∧ x.f0 ≤ _; omega) hv
      rw [show (g47 y).f1 = y.f1 from rfl, show (g47 y).f2 = y.f2 from rfl, show (g47 x).f0 = (a : Int) from ha, show (g47 x).f2 = x.f2 from rfl] at m2
      by_cases e : y.f1 = (a : Int) - 1 ∧ y.f2 = x.f2
      · rw [if_pos e] at m1 m2
        rw [st _ _ m1, List.map_append, List.map_append]
        refine ⟨m2.symm ▸ rfl, fun z hz => ?_⟩
        rcases List.mem_append.1 hz with hz | hz
        · have := hA z (List.mem_append_left _ hz); omega
        · rw [List.mem_singleton.1 hz]
          show x.f1 < _
          omega
      · rw [if_neg e] at m1 m2
        refine app m1 ?_
        rw [List.map_append]
        exact m2
theorem fold_few (o : Int) : ∀ (xs : List S41) (c : Nat) (V : Nat → Int) (A : List S41), chk ((c : Int) - 1) xs = 0 → c ≤ 1114112 → (∀ y ∈ A, y.f1 < (c : Int)) → (∀ r, c ≤ r → V r = val o (rows3 xs) r) → (foldC o V c (1114112 - c) A).map g47 = (xs.map g47).foldl (fewV o) (A.map g47)
  | [], c, V, A, _, _, _, hV => by
    rw [foldC_o o V _ c A (fun r h1 _ => hV r h1)]
    rfl
  | x :: t, c, V, A, h, hc, hA, hV => by
    have hg := chk_good (x :: t) ((c : Int) - 1) (by omega) h
    obtain ⟨h1, h2, h3⟩ := hg.2 x (List.mem_cons_self ..)
    unfold chk at h
    split at h
    · cases h
    · rename_i e1
      split at h
      · cases h
      · rename_i e2
        have hval : ∀ r, val o (rows3 (x :: t)) r = if x.f0.toNat ≤ r ∧ r ≤ x.f1.toNat then x.f2 else val o (rows3 t) r := fun r => rfl
        have hout : ∀ r : Nat, (r : Int) ≤ x.f1 → val o (rows3 t) r = o := fun r hr => by
          have hgt := chk_good t x.f1 (by omega) h
          refine val_none o _ r ?_
          rintro ⟨z, hz, hz1, hz2⟩
          have hle : ∀ (t : List Row3) (c : Nat), Stg.Good c t → ∀ y ∈ t, c ≤ y.1 := fun t => by
            induction t with
            | nil => intro c _ y hy; cases hy
            | cons z t ih =>
              intro c hg y hy
              rcases List.mem_cons.1 hy with rfl | hy
              · exact hg.1
              · have := ih _ hg.2.2.2 y hy
                have := hg.2.1
                have := hg.1
                omega
          have := hle _ _ hgt.1 z hz
          omega
        obtain ⟨k1, k2⟩ := foldC_row o V x A ⟨h1, h2, h3⟩ (fun y hy => by have := hA y hy; omega) (fun r hr1 hr2 => by
          rw [hV r (by omega), hval, if_pos (by omega)])
        have ih := fold_few o t (x.f1.toNat + 1) V (foldC o V x.f0.toNat (x.f1.toNat + 1 - x.f0.toNat) A) (by rw [show (((x.f1.toNat + 1 : Nat)) : Int) - 1 = x.f1 by omega]; exact h) (by omega) (fun y hy => by have := k2 y hy; omega) (fun r hr => by
          rw [hV r (by omega), hval, if_neg (by omega)])
        rw [show 1114112 - c = (x.f0.toNat - c) + ((x.f1.toNat + 1 - x.f0.toNat) + (1114112 - (x.f1.toNat + 1))) by omega, foldC_add, foldC_add, foldC_o o V (x.f0.toNat - c) c A (fun r hr1 hr2 => by
          rw [hV r hr1, hval, if_neg (by omega)]
          exact hout r (by omega)), show c + (x.f0.toNat - c) = x.f0.toNat by omega, show x.f0.toNat + (x.f1.toNat + 1 - x.f0.toNat) = x.f1.toNat + 1 by omega, ih, k1]
        rfl
theorem foldR_few (o : Int) (xs : List S41) (h : chk (-1) xs = 0) : (foldR o (val o (rows3 xs)) 1114112).map g47 = (xs.map g47).foldl (fewV o) [] := by
  have := fold_few o xs 0 (val o (rows3 xs)) [] h (by omega) (fun y hy => by cases hy) (fun _ _ => rfl)
  refine Eq.trans ?_ this
  unfold foldR foldC
  rw [List.range_eq_range']
end Go.Proofs.Ytonmollpimoaoaa.Sa
