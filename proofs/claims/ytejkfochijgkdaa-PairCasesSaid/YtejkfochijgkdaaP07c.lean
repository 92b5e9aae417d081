/- The tables are these lists. -/
import Derived.Test.YtejkfochijgkdaaP07b
namespace Go.Proofs.Ytejkfochijgkdaa.Pr
set_option linter.unusedVariables false
/-! ### the tables are these lists -/
def toI (t : Nat × Nat × Nat) : T3 := ((t.1 : Int), (t.2.1 : Int), (t.2.2 : Int))
def exclT (t : T3) : Bool := t.1 == 836 || (decide (2392 ≤ t.1) && decide (t.1 ≤ 2399)) || t.2.2 == 0
def dnL (l : List T3) (x : Int) (o : Option (Int × Int)) : Option (Int × Int) := l.foldl (fun acc t => if x = t.1 then some t.2 else acc) o
def upL (l : List T3) (a b : Int) (o : Option Int) : Option Int := l.foldl (fun acc t => if exclT t = true then acc else if a = t.2.1 ∧ b = t.2.2 then some t.1 else acc) o
/-- A triple is read. -/
def fl (n : Nat) (st : S) (t : T3) : S := flushS n { st with n0 := t.1, n1 := t.2.1, n2 := t.2.2 }
theorem flushS_zero (n : Nat) (st : S) : (flushS n st).n0 = 0 ∧ (flushS n st).n1 = 0 ∧ (flushS n st).n2 = 0 ∧ (flushS n st).k = 0 := by
  unfold flushS
  split <;> exact ⟨rfl, rfl, rfl, rfl⟩
theorem flushS_k (n : Nat) (st : S) (k : Nat) : flushS n { st with k := k } = flushS n st := rfl
theorem three (st : S) (h : st.n0 = 0 ∧ st.n1 = 0 ∧ st.n2 = 0 ∧ st.k = 0) (r a b : Int) : stepS 2 (stepS 2 (stepS 2 st r) a) b = fl 2 st (r, a, b) := by
  obtain ⟨n0, n1, n2, k, m, dn, up, sec⟩ := st
  obtain ⟨h0, h1, h2, h3⟩ := h
  simp only at h0 h1 h2 h3
  subst h0 h1 h2 h3
  rfl
theorem two (st : S) (h : st.n0 = 0 ∧ st.n1 = 0 ∧ st.n2 = 0 ∧ st.k = 0) (r a : Int) : stepS 1 (stepS 1 st r) a = fl 1 st (r, a, 0) := by
  obtain ⟨n0, n1, n2, k, m, dn, up, sec⟩ := st
  obtain ⟨h0, h1, h2, h3⟩ := h
  simp only at h0 h1 h2 h3
  subst h0 h1 h2 h3
  rfl
theorem fold3 : ∀ (l : List (Nat × Nat × Nat)) (st : S), (st.n0 = 0 ∧ st.n1 = 0 ∧ st.n2 = 0 ∧ st.k = 0) → ((flatN l).map Int.ofNat).foldl (stepS 2) st = (l.map toI).foldl (fl 2) st
  | [], _, _ => rfl
  | t :: l, st, h => by
    simp only [flatN, List.map_cons, List.foldl_cons]
    rw [three st h]
    exact fold3 l _ (flushS_zero _ _)
theorem fold2 : ∀ (l : List (Nat × Nat × Nat)) (st : S), l.all (fun t => t.2.2 == 0) = true → (st.n0 = 0 ∧ st.n1 = 0 ∧ st.n2 = 0 ∧ st.k = 0) → ((flat2N l).map Int.ofNat).foldl (stepS 1) st = (l.map toI).foldl (fl 1) st
  | [], _, _, _ => rfl
  | t :: l, st, hz, h => by
    simp only [List.all_cons, Bool.and_eq_true, beq_iff_eq] at hz
    simp only [flat2N, List.map_cons, List.foldl_cons]
    rw [two st h]
    have e : toI t = (Int.ofNat t.1, Int.ofNat t.2.1, 0) := by
      unfold toI
      rw [hz.1]
      rfl
    rw [e]
    exact fold2 l _ hz.2 (flushS_zero _ _)
theorem putD_self (dn : Int → Option (Int × Int)) (r : Int) (p : Int × Int) : exclV (putD dn r p) r = exclT (r, p) := by
  unfold exclV putD exclT
  simp
theorem fl_dn (n : Nat) (st : S) (t : T3) (x : Int) : (fl n st t).dn x = if x = t.1 then some t.2 else st.dn x := by
  unfold fl flushS
  split <;> rfl
theorem fl_up (st : S) (t : T3) (a b : Int) : (fl 2 st t).up a b = if exclT t = true then st.up a b else if a = t.2.1 ∧ b = t.2.2 then some t.1 else st.up a b := by
  unfold fl flushS
  simp only [putD_self, true_and]
  cases exclT (t.1, t.2.1, t.2.2) with
  | true => rfl
  | false => rfl
theorem fl_up1 (st : S) (t : T3) (a b : Int) : (fl 1 st t).up a b = st.up a b := by
  unfold fl flushS
  rw [if_neg (fun h => absurd h.1 (by decide))]
theorem dn_fold (n : Nat) : ∀ (l : List T3) (st : S) (x : Int), (l.foldl (fl n) st).dn x = dnL l x (st.dn x)
  | [], _, _ => rfl
  | t :: l, st, x => by
    rw [List.foldl_cons, dn_fold n l, fl_dn]
    rfl
theorem up_fold : ∀ (l : List T3) (st : S) (a b : Int), (l.foldl (fl 2) st).up a b = upL l a b (st.up a b)
  | [], _, _, _ => rfl
  | t :: l, st, a, b => by
    rw [List.foldl_cons, up_fold l, fl_up]
    rfl
theorem up_fold1 : ∀ (l : List T3) (st : S) (a b : Int), (l.foldl (fl 1) st).up a b = st.up a b
  | [], _, _, _ => rfl
  | t :: l, st, a, b => by rw [List.foldl_cons, up_fold1 l, fl_up1]
noncomputable def LPz : List T3 := PN.map toI
noncomputable def LAz : List T3 := (PN ++ TN6).map toI
theorem next2' (st : S) (s : ByteArray) (l : List Nat) (T : List (Nat × Nat × Nat)) (h1 : runesF s (s.size + 1) 0 = l.map Int.ofNat) (h2 : flatN T = l) : nextS 2 st s = (T.map toI).foldl (fl 2) ⟨0, 0, 0, 0, st.m, st.dn, st.up, st.sec⟩ := by
  unfold nextS finS
  rw [h1, ← h2]
  exact fold3 _ _ ⟨rfl, rfl, rfl, rfl⟩
theorem next1' (st : S) (s : ByteArray) (l : List Nat) (T : List (Nat × Nat × Nat)) (h1 : runesF s (s.size + 1) 0 = l.map Int.ofNat) (h2 : flat2N T = l) (h3 : T.all (fun t => t.2.2 == 0) = true) : nextS 1 st s = (T.map toI).foldl (fl 1) ⟨0, 0, 0, 0, st.m, st.dn, st.up, st.sec⟩ := by
  unfold nextS finS
  rw [h1, ← h2]
  exact fold2 _ _ h3 ⟨rfl, rfl, rfl, rfl⟩
theorem next2 (st : S) (i : Nat) (hi : i < 6) : nextS 2 st (strs i) = ((TN i).map toI).foldl (fl 2) ⟨0, 0, 0, 0, st.m, st.dn, st.up, st.sec⟩ := by
  have h := runes_ok i (by omega)
  unfold runes at h
  exact next2' st (strs i) (runesN i) (TN i) h (flat_ok i hi)
theorem next1 (st : S) : nextS 1 st (strs 6) = (TN6.map toI).foldl (fl 1) ⟨0, 0, 0, 0, st.m, st.dn, st.up, st.sec⟩ := by
  have h := runes_ok 6 (by omega)
  unfold runes at h
  exact next1' st (strs 6) (runesN 6) TN6 h flat2_ok.1 flat2_ok.2
theorem dn_next2 (st : S) (i : Nat) (hi : i < 6) (x : Int) : (nextS 2 st (strs i)).dn x = dnL ((TN i).map toI) x (st.dn x) := by rw [next2 st i hi, dn_fold]
theorem up_next2 (st : S) (i : Nat) (hi : i < 6) (a b : Int) : (nextS 2 st (strs i)).up a b = upL ((TN i).map toI) a b (st.up a b) := by rw [next2 st i hi, up_fold]
theorem dn_next1 (st : S) (x : Int) : (nextS 1 st (strs 6)).dn x = dnL (TN6.map toI) x (st.dn x) := by rw [next1 st, dn_fold]
theorem up_next1 (st : S) (a b : Int) : (nextS 1 st (strs 6)).up a b = st.up a b := by rw [next1 st, up_fold1]
theorem dnL_append (l l' : List T3) (x : Int) (o : Option (Int × Int)) : dnL (l ++ l') x o = dnL l' x (dnL l x o) := List.foldl_append
theorem upL_append (l l' : List T3) (a b : Int) (o : Option Int) : upL (l ++ l') a b o = upL l' a b (upL l a b o) := List.foldl_append
theorem gen_dn (s : Nat → ByteArray) (f : Nat → List T3) (h : ∀ i, i < 6 → ∀ st x, (nextS 2 st (s i)).dn x = dnL (f i) x (st.dn x)) (x : Int) : (((List.range 6).map s).foldl (nextS 2) S0).dn x = dnL (f 0 ++ (f 1 ++ (f 2 ++ (f 3 ++ (f 4 ++ f 5))))) x none := by
  show (nextS 2 (nextS 2 (nextS 2 (nextS 2 (nextS 2 (nextS 2 S0 (s 0)) (s 1)) (s 2)) (s 3)) (s 4)) (s 5)).dn x = _
  rw [h 5 (by decide), h 4 (by decide), h 3 (by decide), h 2 (by decide), h 1 (by decide), h 0 (by decide), dnL_append, dnL_append, dnL_append, dnL_append, dnL_append]
  rfl
theorem gen_up (s : Nat → ByteArray) (f : Nat → List T3) (h : ∀ i, i < 6 → ∀ st a b, (nextS 2 st (s i)).up a b = upL (f i) a b (st.up a b)) (a b : Int) : (((List.range 6).map s).foldl (nextS 2) S0).up a b = upL (f 0 ++ (f 1 ++ (f 2 ++ (f 3 ++ (f 4 ++ f 5))))) a b none := by
  show (nextS 2 (nextS 2 (nextS 2 (nextS 2 (nextS 2 (nextS 2 S0 (s 0)) (s 1)) (s 2)) (s 3)) (s 4)) (s 5)).up a b = _
  rw [h 5 (by decide), h 4 (by decide), h 3 (by decide), h 2 (by decide), h 1 (by decide), h 0 (by decide), upL_append, upL_append, upL_append, upL_append, upL_append]
  rfl
theorem map6 (T : Nat → List (Nat × Nat × Nat)) : (T 0 ++ (T 1 ++ (T 2 ++ (T 3 ++ (T 4 ++ T 5))))).map toI = (T 0).map toI ++ ((T 1).map toI ++ ((T 2).map toI ++ ((T 3).map toI ++ ((T 4).map toI ++ (T 5).map toI)))) := by
  rw [List.map_append, List.map_append, List.map_append, List.map_append, List.map_append]
theorem pn_map : PN.map toI = (TN 0).map toI ++ ((TN 1).map toI ++ ((TN 2).map toI ++ ((TN 3).map toI ++ ((TN 4).map toI ++ (TN 5).map toI)))) := by
  unfold PN
  exact map6 TN
theorem stAt_dn (x : Int) : (stAt 6).dn x = dnL (PN.map toI) x none := by
  unfold stAt
  rw [pn_map]
  exact gen_dn strs (fun i => (TN i).map toI) (fun i hi st x => dn_next2 st i hi x) x
theorem stAt_up (a b : Int) : (stAt 6).up a b = upL (PN.map toI) a b none := by
  unfold stAt
  rw [pn_map]
  exact gen_up strs (fun i => (TN i).map toI) (fun i hi st a b => up_next2 st i hi a b) a b
theorem tab_dn (x : Int) : tabS.dn x = dnL LAz x none := by
  unfold tabS LAz
  rw [dn_next1 (stAt 6) x, stAt_dn, List.map_append, dnL_append]
theorem tab_up (a b : Int) : tabS.up a b = upL LPz a b none := by
  unfold tabS LPz
  rw [up_next1 (stAt 6) a b, stAt_up]
/-! ### membership -/
theorem dnL_mem : ∀ (l : List T3) (x : Int) (o : Option (Int × Int)) (p : Int × Int), dnL l x o = some p → (x, p) ∈ l ∨ o = some p
  | [], _, _, _, h => .inr h
  | t :: l, x, o, p, h => by
    rcases dnL_mem l x _ p h with h | h
    · exact .inl (List.mem_cons_of_mem _ h)
    · replace h : (if x = t.1 then some t.2 else o) = some p := h
      split at h
      · rename_i e
        cases h
        exact .inl (by rw [e]; exact List.mem_cons_self ..)
      · exact .inr h
theorem dnL_none : ∀ (l : List T3) (x : Int) (o : Option (Int × Int)), (∀ t ∈ l, t.1 ≠ x) → dnL l x o = o
  | [], _, _, _ => rfl
  | t :: l, x, o, h => by
    show dnL l x (if x = t.1 then some t.2 else o) = o
    rw [if_neg (fun e => h t (List.mem_cons_self ..) e.symm), dnL_none l x o (fun t ht => h t (List.mem_cons_of_mem _ ht))]
theorem dnL_of : ∀ (l : List T3) (x : Int) (o : Option (Int × Int)) (p : Int × Int), (l.map (·.1)).Nodup → (x, p) ∈ l → dnL l x o = some p
  | [], _, _, _, _, h => by cases h
  | t :: l, x, o, p, hn, h => by
    rw [List.map_cons, List.nodup_cons] at hn
    show dnL l x (if x = t.1 then some t.2 else o) = some p
    rcases List.mem_cons.1 h with e | h
    · rw [← e, if_pos rfl]
      exact dnL_none l x _ (fun t' ht' e' => hn.1 (by rw [← e]; exact List.mem_map.2 ⟨t', ht', e'⟩))
    · exact dnL_of l x _ p hn.2 h
theorem upL_mem : ∀ (l : List T3) (a b : Int) (o : Option Int) (r : Int), upL l a b o = some r → ((r, a, b) ∈ l ∧ exclT (r, a, b) = false) ∨ o = some r
  | [], _, _, _, _, h => .inr h
  | t :: l, a, b, o, r, h => by
    rcases upL_mem l a b _ r h with h | h
    · exact .inl ⟨List.mem_cons_of_mem _ h.1, h.2⟩
    · replace h : (if exclT t = true then o else if a = t.2.1 ∧ b = t.2.2 then some t.1 else o) = some r := h
      split at h
      · exact .inr h
      · rename_i hx
        split at h
        · rename_i e
          cases h
          refine .inl ⟨by rw [e.1, e.2]; exact List.mem_cons_self .., ?_⟩
          rw [e.1, e.2]
          exact Bool.eq_false_iff.2 hx
        · exact .inr h
theorem upL_none : ∀ (l : List T3) (a b : Int) (o : Option Int), (∀ t ∈ l, exclT t = false → t.2 ≠ (a, b)) → upL l a b o = o
  | [], _, _, _, _ => rfl
  | t :: l, a, b, o, h => by
    have ih := upL_none l a b o (fun t ht => h t (List.mem_cons_of_mem _ ht))
    show upL l a b (if exclT t = true then o else if a = t.2.1 ∧ b = t.2.2 then some t.1 else o) = o
    split
    · exact ih
    · rename_i hx
      rw [if_neg (fun e => h t (List.mem_cons_self ..) (Bool.eq_false_iff.2 hx) (by rw [e.1, e.2])), ih]
theorem upL_of : ∀ (l : List T3) (a b : Int) (o : Option Int) (r : Int), ((l.filter fun t => !exclT t).map (·.2)).Nodup → (r, a, b) ∈ l → exclT (r, a, b) = false → upL l a b o = some r
  | [], _, _, _, _, _, h, _ => by cases h
  | t :: l, a, b, o, r, hn, h, hx => by
    show upL l a b (if exclT t = true then o else if a = t.2.1 ∧ b = t.2.2 then some t.1 else o) = some r
    rcases List.mem_cons.1 h with e | h
    · rw [← e, hx, if_neg (by decide), if_pos ⟨rfl, rfl⟩]
      refine upL_none l a b _ (fun t' ht' hx' e' => ?_)
      rw [← e, List.filter_cons, hx, if_pos (by rfl), List.map_cons, List.nodup_cons] at hn
      exact hn.1 (List.mem_map.2 ⟨t', List.mem_filter.2 ⟨ht', by rw [hx']; rfl⟩, e'⟩)
    · have hn' : ((l.filter fun t => !exclT t).map (·.2)).Nodup := by
        rw [List.filter_cons] at hn
        split at hn
        · rw [List.map_cons, List.nodup_cons] at hn
          exact hn.2
        · exact hn
      exact upL_of l a b _ r hn' h hx
theorem toI_ex (t : Nat × Nat × Nat) : exclT (toI t) = exN t := by
  unfold exclT exN toI
  rw [Bool.eq_iff_iff]
  simp only [Bool.or_eq_true, Bool.and_eq_true, beq_iff_eq, decide_eq_true_eq, Nat.ble_eq]
  omega
theorem nodup_r : (LAz.map (·.1)).Nodup := by
  have h := nd_nodup _ nd_r
  unfold LAz
  rw [List.map_map]
  have e : ((fun t : T3 => t.1) ∘ toI) = (fun n : Nat => (n : Int)) ∘ (fun t : Nat × Nat × Nat => t.1) := rfl
  show List.Nodup (List.map ((fun t : T3 => t.1) ∘ toI) (PN ++ TN6))
  rw [e, ← List.map_map]
  exact List.Pairwise.map _ (fun a b hab hc => hab (by omega)) h
theorem nodup_ab : ((LPz.filter fun t => !exclT t).map (·.2)).Nodup := by
  have h := nd_nodup _ nd_ab
  have hr := rng
  rw [List.all_eq_true] at hr
  unfold LPz
  rw [List.filter_map, List.map_map]
  have e : ((fun t : T3 => !exclT t) ∘ toI) = fun t => !exN t := by funext t; show (!exclT (toI t)) = _; rw [toI_ex]
  rw [e]
  have hb : ∀ t ∈ PN.filter (fun t => !exN t), t.2.2 < 2097152 := by
    intro t ht
    have := hr t (List.mem_append_left _ (List.mem_filter.1 ht).1)
    simp only [Bool.and_eq_true, Nat.ble_eq] at this
    omega
  revert h hb
  generalize PN.filter (fun t => !exN t) = l
  intro h hb
  rw [List.Nodup, List.pairwise_map] at h ⊢
  refine List.Pairwise.imp_of_mem (fun {x y} hx hy hxy he => hxy ?_) h
  have h1 : (x.2.1 : Int) = y.2.1 ∧ (x.2.2 : Int) = y.2.2 := by
    have := Prod.mk.inj he
    exact this
  have := hb x hx
  have := hb y hy
  omega
theorem mem_rng {t : T3} (h : t ∈ LAz) : (0 ≤ t.1 ∧ t.1 ≤ 1114111) ∧ (0 ≤ t.2.1 ∧ t.2.1 ≤ 1114111) ∧ 0 ≤ t.2.2 ∧ t.2.2 ≤ 1114111 := by
  unfold LAz at h
  obtain ⟨u, hu, rfl⟩ := List.mem_map.1 h
  have hr := rng
  rw [List.all_eq_true] at hr
  have := hr u hu
  simp only [Bool.and_eq_true, Nat.ble_eq] at this
  unfold toI
  simp only
  omega
theorem mem_LP {t : T3} (h : t ∈ LPz) : t ∈ LAz := by
  unfold LPz at h
  unfold LAz
  obtain ⟨u, hu, rfl⟩ := List.mem_map.1 h
  exact List.mem_map.2 ⟨u, List.mem_append_left _ hu, rfl⟩
theorem mem_LA {t : T3} (h : t ∈ LAz) (h2 : t.2.2 ≠ 0) : t ∈ LPz := by
  unfold LAz at h
  unfold LPz
  obtain ⟨u, hu, rfl⟩ := List.mem_map.1 h
  rcases List.mem_append.1 hu with hu | hu
  · exact List.mem_map.2 ⟨u, hu, rfl⟩
  · have := flat2_ok.2
    rw [List.all_eq_true] at this
    have := this u hu
    simp only [beq_iff_eq] at this
    exact absurd (show (toI u).2.2 = 0 by unfold toI; simp only; omega) h2
/-- What is made of two is put together by them. -/
theorem back_up {r x y : Int} (h : tabS.dn r = some (x, y)) (hx : exclV tabS.dn r = false) : tabS.up x y = some r := by
  have hm := (dnL_mem _ _ _ _ ((tab_dn r).symm.trans h)).resolve_right (by intro e; cases e)
  have he : exclT (r, x, y) = false := by
    unfold exclV at hx
    rw [h] at hx
    exact hx
  have hy : y ≠ 0 := by
    rintro rfl
    unfold exclT at he
    simp at he
  rw [tab_up]
  exact upL_of _ _ _ _ _ nodup_ab (mem_LA hm hy) he
/-- What two make is made of them. -/
theorem back_dn {a b z : Int} (h : tabS.up a b = some z) : tabS.dn z = some (a, b) ∧ exclV tabS.dn z = false ∧ b ≠ 0 := by
  obtain ⟨hm, he⟩ := (upL_mem _ _ _ _ _ ((tab_up a b).symm.trans h)).resolve_right (by intro e; cases e)
  have hd : tabS.dn z = some (a, b) := by
    rw [tab_dn]
    exact dnL_of _ _ _ _ nodup_r (mem_LP hm)
  refine ⟨hd, ?_, ?_⟩
  · unfold exclV
    rw [hd]
    exact he
  · rintro rfl
    unfold exclT at he
    simp at he
theorem dn_rng {r x y : Int} (h : tabS.dn r = some (x, y)) : (0 ≤ x ∧ x ≤ 1114111) ∧ 0 ≤ y ∧ y ≤ 1114111 := by
  have hm := (dnL_mem _ _ _ _ ((tab_dn r).symm.trans h)).resolve_right (by intro e; cases e)
  exact (mem_rng hm).2
theorem up_rng {a b z : Int} (h : tabS.up a b = some z) : 0 ≤ z ∧ z ≤ 1114111 := by
  obtain ⟨hm, _⟩ := (upL_mem _ _ _ _ _ ((tab_up a b).symm.trans h)).resolve_right (by intro e; cases e)
  exact (mem_rng (mem_LP hm)).1
end Go.Proofs.Ytejkfochijgkdaa.Pr
