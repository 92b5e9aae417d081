/- The document's table is the program's. -/
import Derived.Test.YtejkfochijgkdaaP07c
import Derived.Test.YtejkfochijgkdaaPall
import Derived.Test.YtejkfochijgkdaaPd
namespace Go.Proofs.Ytejkfochijgkdaa.Pr
open Go.Proofs.Ytejkfochijgkdaa.Pt (rDown rExcl rUp rSec acc)
set_option linter.unusedVariables false
set_option linter.unusedSimpArgs false
def eqT : List (Int × Int × Int) → List (Nat × Nat × Nat) → Bool
  | [], [] => true
  | (x, a, b) :: l, (y, c, d) :: k => (Nat.beq x.toNat y && decide (0 ≤ x)) && ((Nat.beq a.toNat c && decide (0 ≤ a)) && ((Nat.beq b.toNat d && decide (0 ≤ b)) && eqT l k))
  | _, _ => false
theorem eqT_eq : ∀ (l : List (Int × Int × Int)) (k : List (Nat × Nat × Nat)), eqT l k = true → l = k.map toI
  | [], [], _ => rfl
  | [], _ :: _, h => by simp [eqT] at h
  | _ :: _, [], h => by simp [eqT] at h
  | (x, a, b) :: l, (y, c, d) :: k, h => by
    simp only [eqT, Bool.and_eq_true, decide_eq_true_eq] at h
    obtain ⟨⟨h1, h2⟩, ⟨h3, h4⟩, ⟨h5, h6⟩, h7⟩ := h
    have h1 := Nat.eq_of_beq_eq_true h1
    have h3 := Nat.eq_of_beq_eq_true h3
    have h5 := Nat.eq_of_beq_eq_true h5
    rw [List.map_cons, ← eqT_eq l k h7]
    unfold toI
    have e1 : x = (y : Int) := by omega
    have e2 : a = (c : Int) := by omega
    have e3 : b = (d : Int) := by omega
    rw [e1, e2, e3]
set_option maxHeartbeats 0 in
set_option maxRecDepth 1000000 in
theorem all_eqT : eqT (acc 7) (TN6 ++ PN) = true := by decide +kernel
theorem all_eq : acc 7 = (TN6 ++ PN).map toI := eqT_eq _ _ all_eqT
theorem mem_all (t : T3) : t ∈ acc 7 ↔ t ∈ LAz := by
  rw [all_eq]
  unfold LAz
  rw [List.map_append, List.map_append, List.mem_append, List.mem_append]
  exact Or.comm
theorem len_all : (acc 7).length = LAz.length := by
  rw [all_eq]
  unfold LAz
  rw [List.length_map, List.length_map, List.length_append, List.length_append, Nat.add_comm]
/-! ### Down -/
def dV (p : Int × Int) : Int × Int × Int := if p.2 = 0 then (p.1, 0, 1) else (p.1, p.2, 2)
theorem rDown_mem : ∀ (l : List T3) (r : Int), (∃ p, (r, p) ∈ l ∧ rDown l r = dV p) ∨ ((∀ t ∈ l, t.1 ≠ r) ∧ rDown l r = (0, 0, 0))
  | [], _ => .inr ⟨fun t ht => (by cases ht), rfl⟩
  | t :: l, r => by
    unfold rDown
    by_cases h : t.1 = r
    · refine .inl ⟨t.2, by rw [← h]; exact List.mem_cons_self .., ?_⟩
      rw [if_pos h]
      rfl
    · rw [if_neg h]
      rcases rDown_mem l r with ⟨p, hp, hr⟩ | ⟨hn, hr⟩
      · exact .inl ⟨p, List.mem_cons_of_mem _ hp, hr⟩
      · exact .inr ⟨fun u hu => by
          rcases List.mem_cons.1 hu with rfl | hu
          · exact h
          · exact hn u hu, hr⟩
theorem dn_iff (r : Int) (p : Int × Int) : tabS.dn r = some p ↔ (r, p) ∈ LAz := by
  constructor
  · intro h
    exact (dnL_mem _ _ _ _ ((tab_dn r).symm.trans h)).resolve_right (by intro e; cases e)
  · intro h
    rw [tab_dn]
    exact dnL_of _ _ _ _ nodup_r h
theorem downV_some {dn : Int → Option (Int × Int)} {r : Int} {p : Int × Int} (h : dn r = some p) : downV dn r = dV p := by
  unfold downV dV
  rw [h]
theorem rdown_eq (r : Int) : rDown (acc 7) r = downV tabS.dn r := by
  rcases rDown_mem (acc 7) r with ⟨p, hp, hr⟩ | ⟨hn, hr⟩
  · rw [hr, downV_some ((dn_iff r p).2 ((mem_all _).1 hp))]
  · rw [hr]
    cases hd : tabS.dn r with
    | none => unfold downV; rw [hd]
    | some p => exact absurd rfl (hn _ ((mem_all _).2 ((dn_iff r p).1 hd)))
theorem rexcl_eq (r : Int) : rExcl (acc 7) r = exclV tabS.dn r := by
  unfold rExcl
  rw [rdown_eq]
  unfold exclV downV
  cases hd : tabS.dn r with
  | none => simp
  | some p =>
    simp only
    by_cases h : p.2 = 0
    · rw [if_pos h]
      simp [h]
    · rw [if_neg h]
      simp [h]
/-! ### Up -/
theorem rUp_mem (al : List T3) : ∀ (l : List T3) (a b : Int), (∃ z, (z, a, b) ∈ l ∧ b ≠ 0 ∧ rExcl al z = false ∧ rUp al l a b = z) ∨ ((∀ z, (z, a, b) ∈ l → b ≠ 0 → rExcl al z = true) ∧ rUp al l a b = -1)
  | [], _, _ => .inr ⟨fun t ht => (by cases ht), rfl⟩
  | (x, a', b') :: l, a, b => by
    unfold rUp
    by_cases h : a' = a ∧ b' = b ∧ b ≠ 0 ∧ rExcl al x = false
    · rw [if_pos h]
      obtain ⟨rfl, rfl, h3, h4⟩ := h
      exact .inl ⟨x, List.mem_cons_self .., h3, h4, rfl⟩
    · rw [if_neg h]
      rcases rUp_mem al l a b with ⟨z, hz, h1, h2, h3⟩ | ⟨hn, hr⟩
      · exact .inl ⟨z, List.mem_cons_of_mem _ hz, h1, h2, h3⟩
      · refine .inr ⟨fun z hz hb => ?_, hr⟩
        rcases List.mem_cons.1 hz with e | hz
        · cases e
          by_cases hx : rExcl al x = false
          · exact absurd ⟨rfl, rfl, hb, hx⟩ h
          · simpa using hx
        · exact hn z hz hb
theorem rup_eq (a b : Int) : rUp (acc 7) (acc 7) a b = (tabS.up a b).getD (-1) := by
  rcases rUp_mem (acc 7) (acc 7) a b with ⟨z, hz, h1, h2, h3⟩ | ⟨hn, hr⟩
  · rw [h3]
    have hd := (dn_iff z (a, b)).2 ((mem_all _).1 hz)
    rw [back_up hd (by rw [← rexcl_eq]; exact h2)]
    rfl
  · rw [hr]
    cases hu : tabS.up a b with
    | none => rfl
    | some z =>
      obtain ⟨hd, hx, hb⟩ := back_dn hu
      have := hn z ((mem_all _).2 ((dn_iff z _).1 hd)) hb
      rw [rexcl_eq, hx] at this
      cases this
/-! ### Second -/
theorem fl_sec (st : S) (t : T3) (x : Int) : (fl 2 st t).sec x = if exclT t = true then st.sec x else if x = t.2.2 then some ((st.sec t.2.2).getD 0 + 1) else st.sec x := by
  unfold fl flushS
  simp only [putD_self, true_and]
  cases exclT (t.1, t.2.1, t.2.2) with
  | true => rfl
  | false => rfl
theorem fl_sec1 (st : S) (t : T3) (x : Int) : (fl 1 st t).sec x = st.sec x := by
  unfold fl flushS
  rw [if_neg (fun h => absurd h.1 (by decide))]
/-- sec tells what of the list's are seconds. -/
def SecOk (sec : Int → Option Int) (L : List T3) : Prop := ∀ x, 0 ≤ (sec x).getD 0 ∧ (0 < (sec x).getD 0 ↔ ∃ t ∈ L, exclT t = false ∧ t.2.2 = x)
theorem sec_fold : ∀ (l : List T3) (st : S) (L : List T3), SecOk st.sec L → SecOk (l.foldl (fl 2) st).sec (L ++ l)
  | [], st, L, h => by rw [List.append_nil]; exact h
  | t :: l, st, L, h => by
    rw [List.foldl_cons, show L ++ t :: l = (L ++ [t]) ++ l by simp]
    refine sec_fold l _ _ (fun x => ?_)
    rw [fl_sec]
    obtain ⟨h0, h1⟩ := h x
    have hm : (∃ u ∈ L ++ [t], exclT u = false ∧ u.2.2 = x) ↔ (∃ u ∈ L, exclT u = false ∧ u.2.2 = x) ∨ (exclT t = false ∧ t.2.2 = x) := by
      constructor
      · rintro ⟨u, hu, h⟩
        rcases List.mem_append.1 hu with hu | hu
        · exact .inl ⟨u, hu, h⟩
        · rw [List.mem_singleton.1 hu] at h
          exact .inr h
      · rintro (⟨u, hu, h⟩ | h)
        · exact ⟨u, List.mem_append_left _ hu, h⟩
        · exact ⟨t, List.mem_append_right _ (List.mem_singleton.2 rfl), h⟩
    rw [hm]
    cases hx : exclT t with
    | true =>
      rw [if_pos rfl]
      exact ⟨h0, by rw [h1]; simp⟩
    | false =>
      rw [if_neg (by decide)]
      by_cases he : x = t.2.2
      · rw [if_pos he]
        rw [he] at h0
        simp only [Option.getD_some]
        exact ⟨by omega, ⟨fun _ => .inr ⟨by first | rfl | trivial, he.symm⟩, fun _ => by omega⟩⟩
      · rw [if_neg he]
        refine ⟨h0, ?_⟩
        rw [h1]
        constructor
        · exact .inl
        · rintro (h | h)
          · exact h
          · exact absurd h.2.symm he
theorem sec_fold1 : ∀ (l : List T3) (st : S) (x : Int), (l.foldl (fl 1) st).sec x = st.sec x
  | [], _, _ => rfl
  | t :: l, st, x => by rw [List.foldl_cons, sec_fold1 l, fl_sec1]
theorem gen_sec (s : Nat → ByteArray) (f : Nat → List T3) (h : ∀ i, i < 6 → ∀ st L, SecOk st.sec L → SecOk (nextS 2 st (s i)).sec (L ++ f i)) : SecOk (((List.range 6).map s).foldl (nextS 2) S0).sec (f 0 ++ (f 1 ++ (f 2 ++ (f 3 ++ (f 4 ++ f 5))))) := by
  show SecOk (nextS 2 (nextS 2 (nextS 2 (nextS 2 (nextS 2 (nextS 2 S0 (s 0)) (s 1)) (s 2)) (s 3)) (s 4)) (s 5)).sec _
  have h0 := h 0 (by decide) S0 [] (fun x => ⟨Int.le_refl _, by show (0 : Int) < 0 ↔ _; simp⟩)
  have h1 := h 1 (by decide) _ _ h0
  have h2 := h 2 (by decide) _ _ h1
  have h3 := h 3 (by decide) _ _ h2
  have h4 := h 4 (by decide) _ _ h3
  have h5 := h 5 (by decide) _ _ h4
  simpa only [List.nil_append, List.append_assoc] using h5
theorem sec_next2 (st : S) (i : Nat) (hi : i < 6) (L : List T3) (h : SecOk st.sec L) : SecOk (nextS 2 st (strs i)).sec (L ++ (TN i).map toI) := by
  rw [next2 st i hi]
  exact sec_fold _ _ _ h
theorem sec_next1 (st : S) (x : Int) : (nextS 1 st (strs 6)).sec x = st.sec x := by rw [next1 st, sec_fold1]
theorem sec_last (st : S) (L : List T3) (h : SecOk st.sec L) : SecOk (nextS 1 st (strs 6)).sec L := fun x => by rw [sec_next1 st]; exact h x
theorem tab_sec : SecOk tabS.sec LPz := by
  unfold tabS LPz
  have h : SecOk (stAt 6).sec (PN.map toI) := by
    unfold stAt
    rw [pn_map]
    exact gen_sec strs (fun i => (TN i).map toI) (fun i hi st L h => sec_next2 st i hi L h)
  exact sec_last (stAt 6) _ h
theorem excl_mem {t : T3} (h : t ∈ LAz) : exclV tabS.dn t.1 = exclT t := by
  have hd := (dn_iff t.1 t.2).2 h
  unfold exclV
  rw [hd]
  rfl
theorem rSec_iff (al : List T3) : ∀ (l : List T3) (r : Int), rSec al l r = true ↔ ∃ t ∈ l, t.2.2 = r ∧ r ≠ 0 ∧ rExcl al t.1 = false
  | [], _ => by simp [rSec]
  | t :: l, r => by
    unfold rSec
    by_cases h : t.2.2 = r ∧ r ≠ 0 ∧ rExcl al t.1 = false
    · rw [if_pos h]
      exact ⟨fun _ => ⟨t, List.mem_cons_self .., h⟩, fun _ => rfl⟩
    · rw [if_neg h, rSec_iff al l r]
      constructor
      · rintro ⟨u, hu, h⟩
        exact ⟨u, List.mem_cons_of_mem _ hu, h⟩
      · rintro ⟨u, hu, h'⟩
        rcases List.mem_cons.1 hu with rfl | hu
        · exact absurd h' h
        · exact ⟨u, hu, h'⟩
theorem rsec_eq (r : Int) : rSec (acc 7) (acc 7) r = decide (0 < (tabS.sec r).getD 0) := by
  rw [Bool.eq_iff_iff, rSec_iff, decide_eq_true_eq, (tab_sec r).2]
  constructor
  · rintro ⟨t, ht, h1, h2, h3⟩
    have hm := (mem_all t).1 ht
    rw [rexcl_eq, excl_mem hm] at h3
    exact ⟨t, mem_LA hm (by rw [h1]; exact h2), h3, h1⟩
  · rintro ⟨t, ht, h1, h2⟩
    have hm := mem_LP ht
    refine ⟨t, (mem_all t).2 hm, h2, ?_, by rw [rexcl_eq, excl_mem hm]; exact h1⟩
    rintro rfl
    unfold exclT at h1
    rw [h2] at h1
    simp at h1
/-! ### Len -/
theorem fl_m (n : Nat) (st : S) (t : T3) : (fl n st t).m = if (st.dn t.1).isSome then st.m else st.m + 1 := by
  unfold fl flushS
  split <;> rfl
def LenOk (st : S) (L : List T3) : Prop := st.m = L.length ∧ ∀ x, (∀ t ∈ L, t.1 ≠ x) → st.dn x = none
theorem len_fold (n : Nat) : ∀ (l : List T3) (st : S) (L : List T3), ((L ++ l).map (·.1)).Nodup → LenOk st L → LenOk (l.foldl (fl n) st) (L ++ l)
  | [], st, L, _, h => by rw [List.append_nil]; exact h
  | t :: l, st, L, hn, h => by
    rw [List.foldl_cons, show L ++ t :: l = (L ++ [t]) ++ l by simp] at *
    refine len_fold n l _ _ hn ⟨?_, fun x hx => ?_⟩
    · have hd : st.dn t.1 = none := h.2 t.1 (fun u hu e => by
        rw [List.map_append, List.map_append] at hn
        have h1 := (List.nodup_append.1 (List.nodup_append.1 hn).1).2.2 u.1 (List.mem_map.2 ⟨u, hu, rfl⟩) t.1 (by simp)
        exact h1 e)
      rw [fl_m, hd, if_neg (by decide), h.1, List.length_append]
      rfl
    · rw [fl_dn, if_neg (fun e => hx t (List.mem_append_right _ (List.mem_singleton.2 rfl)) e.symm)]
      exact h.2 x (fun u hu => hx u (List.mem_append_left _ hu))
theorem gen_len (s : Nat → ByteArray) (f : Nat → List T3) (g : List T3) (h : ∀ i, i < 6 → ∀ st L, ((L ++ f i).map (·.1)).Nodup → LenOk st L → LenOk (nextS 2 st (s i)) (L ++ f i)) (hn : ((((((f 0 ++ f 1) ++ f 2) ++ f 3) ++ f 4) ++ f 5).map (·.1)).Nodup) :
    LenOk (((List.range 6).map s).foldl (nextS 2) S0) (((((f 0 ++ f 1) ++ f 2) ++ f 3) ++ f 4) ++ f 5) := by
  show LenOk (nextS 2 (nextS 2 (nextS 2 (nextS 2 (nextS 2 (nextS 2 S0 (s 0)) (s 1)) (s 2)) (s 3)) (s 4)) (s 5)) _
  have sub : ∀ {a b : List T3}, ((a ++ b).map (·.1)).Nodup → (a.map (·.1)).Nodup := fun {a b} h => by rw [List.map_append] at h; exact (List.nodup_append.1 h).1
  have n4 := sub hn
  have n3 := sub n4
  have n2 := sub n3
  have n1 := sub n2
  have n0 := sub n1
  have h0 := h 0 (by decide) S0 [] n0 ⟨rfl, fun x _ => rfl⟩
  rw [List.nil_append] at h0
  exact h 5 (by decide) _ _ hn (h 4 (by decide) _ _ n4 (h 3 (by decide) _ _ n3 (h 2 (by decide) _ _ n2 (h 1 (by decide) _ _ n1 h0))))
theorem len_next2 (st : S) (i : Nat) (hi : i < 6) (L : List T3) (hn : ((L ++ (TN i).map toI).map (·.1)).Nodup) (h : LenOk st L) : LenOk (nextS 2 st (strs i)) (L ++ (TN i).map toI) := by
  rw [next2 st i hi]
  exact len_fold 2 _ _ _ hn h
theorem len_next1 (st : S) (L : List T3) (hn : ((L ++ TN6.map toI).map (·.1)).Nodup) (h : LenOk st L) : LenOk (nextS 1 st (strs 6)) (L ++ TN6.map toI) := by
  rw [next1 st]
  exact len_fold 1 _ _ _ hn h
theorem tab_m : tabS.m = LAz.length := by
  have hn := nodup_r
  have e : LAz = ((((((TN 0).map toI ++ (TN 1).map toI) ++ (TN 2).map toI) ++ (TN 3).map toI) ++ (TN 4).map toI) ++ (TN 5).map toI) ++ TN6.map toI := by
    unfold LAz
    rw [List.map_append, pn_map]
    simp only [List.append_assoc]
  rw [e] at hn ⊢
  have hn1 := hn
  rw [List.map_append] at hn1
  have h6 := gen_len strs (fun i => (TN i).map toI) [] (fun i hi st L hn h => len_next2 st i hi L hn h) (List.nodup_append.1 hn1).1
  have h7 := len_next1 (stAt 6) _ hn h6
  exact h7.1
theorem len_eq : tabS.m = (acc 7).length := tab_m.trans len_all.symm
end Go.Proofs.Ytejkfochijgkdaa.Pr
