/- StageTells: what it leans on. -/
import Derived.Test.YtonmollpimoaoaaSl
import Derived.Test.YtonmollpimoaoaaPStageTellsx2
namespace Go.Proofs.Ytonmollpimoaoaa.Sa
open Go.RowKit Go.Proofs.Ytonmollpimoaoaa.Stg Go.Proofs.YtonmollpimoaoaaW.PrintWords Go.Proofs.YtonmollpimoaoaaW.PrintLast Go.Proofs.YtonmollpimoaoaaW.PrintMore Go.Proofs.Ytonmollpimoaoaa.PStageTells
set_option linter.unusedVariables false
set_option linter.unusedSimpArgs false
def to41 (x : S35) : S41 := ⟨x.f0, x.f1, wrap64 x.f2⟩
def to47 (x : S35) : S47 := ⟨wrap64 x.f0, wrap64 x.f1, wrap64 x.f2⟩
theorem drop35 (xs : List S35) (j : Nat) (h : j < xs.length) : xs.drop j = rd_T35 xs (j : Int) :: xs.drop (j + 1) := by
  rw [List.drop_eq_getElem_cons h]
  unfold rd_T35
  rw [Int.toNat_natCast, List.getD_eq_getElem?_getD, List.getElem?_eq_getElem h]
  rfl
theorem drop47 (xs : List S47) (j : Nat) (h : j < xs.length) : xs.drop j = rd_T47 xs (j : Int) :: xs.drop (j + 1) := by
  rw [List.drop_eq_getElem_cons h]
  unfold rd_T47
  rw [Int.toNat_natCast, List.getD_eq_getElem?_getD, List.getElem?_eq_getElem h]
  rfl
theorem rows_l0 (l : List S35) (hl : l.length ≤ 100000) : ∀ (k i : Nat) (a : List S41) (b : List S47), i ≤ l.length → l.length - i < k → a.length + (l.length - i) ≤ 200000 → b.length + (l.length - i) ≤ 200000 →
    monikerlaw05_rows.l0 k a b l (l.length : Int) (i : Int) = some (a ++ (l.drop i).map to41, b ++ (l.drop i).map to47)
  | 0, i, _, _, _, h, _, _ => by omega
  | k + 1, i, a, b, hi, h, ha, hb => by
    unfold monikerlaw05_rows.l0
    by_cases hlt : i < l.length
    · have hw : wrap64 ((i : Int) + 1) = ((i + 1 : Nat) : Int) := by unfold wrap64; omega
      rw [if_pos (by omega), if_pos (by omega), if_pos (by omega), if_pos (by omega), if_pos (by omega), hw, rows_l0 l hl k (i + 1) _ _ (by omega) (by omega) (by simp; omega) (by simp; omega), drop35 l i hlt, List.map_cons, List.map_cons, List.append_assoc, List.append_assoc]
      rfl
    · rw [if_neg (by omega), List.drop_eq_nil_of_le (by omega)]
      simp
theorem rows_ev (l : List S35) (hl : l.length ≤ 60) : monikerlaw05_rows.f 100 l = some (l.map to41, l.map to47) := by
  unfold monikerlaw05_rows.f
  have := rows_l0 l (by omega) 100 0 [] [] (by omega) (by omega) (by simp; omega) (by simp; omega)
  simpa using this
/-- Rows of both kinds that say the same. -/
structure Same (a : List S41) (b : List S47) : Prop where
  len : a.length = b.length
  f0 : ∀ i : Nat, i < a.length → (rd_T47 b (i : Int)).f0 = (rd_T41 a (i : Int)).f0
  f1 : ∀ i : Nat, i < a.length → (rd_T47 b (i : Int)).f1 = (rd_T41 a (i : Int)).f1
  f2 : ∀ i : Nat, i < a.length → (rd_T47 b (i : Int)).f2 = (rd_T41 a (i : Int)).f2
theorem check_l0 (a : List S41) (b : List S47) (hs : Same a b) (hl : a.length ≤ 100000) : ∀ (k i : Nat) (last : Int), i ≤ a.length → 2 * (a.length - i) < k → (i = 0 → last = -1) → (0 < i → last = (rd_T41 a ((i - 1 : Nat) : Int)).f1) →
    monikerref05_Check.l0 k b (i : Int) = some (chk last (a.drop i))
  | 0, i, _, _, h, _, _ => by omega
  | 1, i, last, hi, h, _, _ => by
    have := hs.len
    unfold monikerref05_Check.l0
    rw [if_neg (by omega), List.drop_eq_nil_of_le (by omega)]
    rfl
  | k + 2, i, last, hi, h, h0, h1 => by
    have hlen := hs.len
    unfold monikerref05_Check.l0
    by_cases hlt : i < a.length
    · have hw : wrap64 ((i : Int) + 1) = ((i + 1 : Nat) : Int) := by unfold wrap64; omega
      have ih := check_l0 a b hs hl k (i + 1) (rd_T41 a (i : Int)).f1 (by omega) (by omega) (fun e => by omega) (fun _ => by rw [Nat.add_sub_cancel])
      rw [if_pos (by omega), if_pos (by omega), drop41 a i hlt, chk]
      have jt : monikerref05_Check.j1 (k + 1) b (i : Int) true = some 7 := by unfold monikerref05_Check.j1; rfl
      rw [hs.f0 i hlt, hs.f1 i hlt]
      by_cases e1 : (rd_T41 a (i : Int)).f0 < 0
      · rw [if_pos e1, if_pos (.inl e1)]
        exact jt
      · rw [if_neg e1]
        by_cases e2 : (rd_T41 a (i : Int)).f1 < (rd_T41 a (i : Int)).f0
        · rw [if_pos e2, if_pos (.inr (.inl e2))]
          exact jt
        · rw [if_neg e2]
          by_cases e3 : (rd_T41 a (i : Int)).f1 > 1114111
          · rw [if_pos (.inr (.inr e3)), decide_eq_true e3]
            exact jt
          · rw [if_neg (by omega), decide_eq_false e3]
            unfold monikerref05_Check.j1
            rw [if_neg (by decide), hw, ih]
            by_cases e5 : i = 0
            · rw [if_neg (by omega), if_neg (by rw [h0 e5]; omega)]
            · have hw2 : wrap64 ((i : Int) - 1) = ((i - 1 : Nat) : Int) := by unfold wrap64; omega
              rw [if_pos (by omega), if_pos (by omega), if_pos (by omega), hw2, if_pos (by omega), if_pos (by omega), hs.f0 i hlt, hs.f1 (i - 1) (by omega), ← h1 (by omega)]
              split <;> rfl
    · rw [if_neg (by omega), List.drop_eq_nil_of_le (by omega)]
      rfl
theorem check47_ev (a : List S41) (b : List S47) (hs : Same a b) (hl : a.length ≤ 60) : monikerref05_Check.f 200 b = some (chkS a) := by
  have hlen := hs.len
  unfold monikerref05_Check.f chkS
  rw [if_neg (by omega), if_neg (by omega)]
  exact check_l0 a b hs (by omega) 200 0 (-1) (by omega) (by omega) (fun _ => rfl) (fun e => by omega)
/-- The document's Get. -/
def rGet (o : Int) : List S47 → Int → Int
  | [], _ => o
  | x :: t, r => if x.f0 ≤ r ∧ r ≤ x.f1 then x.f2 else rGet o t r
theorem get_l0 (o r : Int) (l : List S47) (hl : l.length ≤ 100000) : ∀ (k i : Nat), i ≤ l.length → l.length - i < k → monikerref05_Get.l0 k l o r (i : Int) = some (rGet o (l.drop i) r)
  | 0, i, _, h => by omega
  | k + 1, i, hi, h => by
    unfold monikerref05_Get.l0
    by_cases hlt : i < l.length
    · have hw : wrap64 ((i : Int) + 1) = ((i + 1 : Nat) : Int) := by unfold wrap64; omega
      rw [if_pos (by omega), if_pos (by omega), hw, get_l0 o r l hl k (i + 1) (by omega) (by omega), drop47 l i hlt, rGet]
      by_cases e1 : (rd_T47 l (i : Int)).f0 ≤ r
      · rw [if_pos e1]
        by_cases e2 : r ≤ (rd_T47 l (i : Int)).f1
        · rw [if_pos e2, if_pos ⟨e1, e2⟩]
        · rw [if_neg e2, if_neg (fun e => e2 e.2)]
      · rw [if_neg e1, if_neg (fun e => e1 e.1)]
    · rw [if_neg (by omega), List.drop_eq_nil_of_le (by omega)]
      rfl
theorem get47_ev (o r : Int) (l : List S47) (hl : l.length ≤ 60) : monikerref05_Get.f 100 l o r = some (rGet o l r) := by
  unfold monikerref05_Get.f
  exact get_l0 o r l (by omega) 100 0 (by omega) (by omega)
/-- What a rune's row says, both ways. -/
def Ok35 (x : S35) : Prop := (-2147483648 ≤ x.f0 ∧ x.f0 ≤ 2147483647) ∧ (-2147483648 ≤ x.f1 ∧ x.f1 ≤ 2147483647) ∧ (0 ≤ x.f2 ∧ x.f2 ≤ 255)
theorem same_of (l : List S35) (h : ∀ x ∈ l, Ok35 x) : Same (l.map to41) (l.map to47) := by
  have key : ∀ i : Nat, i < l.length → ∃ x ∈ l, rd_T47 (l.map to47) (i : Int) = to47 x ∧ rd_T41 (l.map to41) (i : Int) = to41 x := fun i hi => by
    refine ⟨l[i], List.getElem_mem _, ?_, ?_⟩
    · unfold rd_T47
      rw [Int.toNat_natCast, List.getD_eq_getElem?_getD, List.getElem?_map, List.getElem?_eq_getElem hi]
      rfl
    · unfold rd_T41
      rw [Int.toNat_natCast, List.getD_eq_getElem?_getD, List.getElem?_map, List.getElem?_eq_getElem hi]
      rfl
  refine ⟨by simp, fun i hi => ?_, fun i hi => ?_, fun i hi => ?_⟩ <;>
    obtain ⟨x, hx, e1, e2⟩ := key i (by simpa using hi) <;> rw [e1, e2] <;> have := h x hx <;> obtain ⟨h1, h2, h3⟩ := this
  · exact w64 (by omega)
  · exact w64 (by omega)
  · rfl
theorem rGet_val (o : Int) : ∀ (l : List S35) (r : Int), (∀ x ∈ l, Ok35 x) → (∀ x ∈ l, 0 ≤ x.f0 ∧ x.f0 ≤ x.f1 ∧ x.f1 ≤ 1114111) → 0 ≤ r → rGet o (l.map to47) r = val o (rows3 (l.map to41)) r.toNat
  | [], _, _, _, _ => rfl
  | x :: t, r, h, h2, h0 => by
    have ih := rGet_val o t r (fun y hy => h y (List.mem_cons_of_mem _ hy)) (fun y hy => h2 y (List.mem_cons_of_mem _ hy)) h0
    obtain ⟨a1, a2, a3⟩ := h x (List.mem_cons_self ..)
    have b := h2 x (List.mem_cons_self ..)
    show (if wrap64 x.f0 ≤ r ∧ r ≤ wrap64 x.f1 then wrap64 x.f2 else rGet o (t.map to47) r) = (if x.f0.toNat ≤ r.toNat ∧ r.toNat ≤ x.f1.toNat then wrap64 x.f2 else val o (rows3 (t.map to41)) r.toNat)
    rw [ih, w64 (x := x.f0) (by omega), w64 (x := x.f1) (by omega)]
    by_cases e : x.f0 ≤ r ∧ r ≤ x.f1
    · rw [if_pos e, if_pos (by omega)]
    · rw [if_neg e, if_neg (by omega)]
theorem rGet_out (o : Int) : ∀ (l : List S35) (r : Int), (∀ x ∈ l, Ok35 x) → (∀ x ∈ l, 0 ≤ x.f0 ∧ x.f0 ≤ x.f1 ∧ x.f1 ≤ 1114111) → (r < 0 ∨ 1114111 < r) → rGet o (l.map to47) r = o
  | [], _, _, _, _ => rfl
  | x :: t, r, h, h2, h0 => by
    obtain ⟨a1, a2, a3⟩ := h x (List.mem_cons_self ..)
    have b := h2 x (List.mem_cons_self ..)
    show (if wrap64 x.f0 ≤ r ∧ r ≤ wrap64 x.f1 then wrap64 x.f2 else rGet o (t.map to47) r) = o
    rw [w64 (x := x.f0) (by omega), w64 (x := x.f1) (by omega), if_neg (by omega)]
    exact rGet_out o t r (fun y hy => h y (List.mem_cons_of_mem _ hy)) (fun y hy => h2 y (List.mem_cons_of_mem _ hy)) h0
theorem tells_eq (o : Int) (l : List S35) (h : ∀ x ∈ l, Ok35 x) (hk : chkS (l.map to41) = 0) (r : Int) : getS o (build o (rows3 (l.map to41))) r = rGet o (l.map to47) r := by
  have hk2 : chk (-1) (l.map to41) = 0 := by
    unfold chkS at hk
    split at hk
    · cases hk
    · exact hk
  have hg := (chk_good _ (-1) (by decide) hk2).2
  have hg' : ∀ x ∈ l, 0 ≤ x.f0 ∧ x.f0 ≤ x.f1 ∧ x.f1 ≤ 1114111 := fun x hx => hg (to41 x) (List.mem_map.2 ⟨x, hx, rfl⟩)
  by_cases hr : r < 0 ∨ 1114111 < r
  · rw [rGet_out o l r h hg' hr]
    unfold getS
    rw [if_pos hr]
  · rw [getS_val o _ hk r (by omega) (by omega), rGet_val o l r h hg' (by omega)]
end Go.Proofs.Ytonmollpimoaoaa.Sa
