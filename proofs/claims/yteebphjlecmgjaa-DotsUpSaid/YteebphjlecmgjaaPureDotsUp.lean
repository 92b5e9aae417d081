import Derived.Test.YteebphjlecmgjaaP23up
namespace Go.Proofs.Yteebphjlecmgjaa.Pure
open Go.RowKit Go.Proofs.Yteebphjlecmgjaa.PUps Go.Proofs.Yteebphjlecmgjaa.By Go.Proofs.Yteebphjlecmgjaa.P23 Go.Proofs.YteebphjlecmgjaaW.PrintWords Go.Proofs.YteebphjlecmgjaaW.PrintLast

/-- The letter of a number. -/
def letr (x : Int) : Int := 97 + x % 26
theorem let_letr (l : List Int) : Let (l.map letr) := by
  intro c hc
  obtain ⟨x, _, rfl⟩ := List.mem_map.1 hc
  unfold letr; omega
theorem dd_len (n : Nat) : (dd n).length = 3 * n := by
  induction n with
  | zero => rfl
  | succ n ih => simp only [dd, List.length_append, ih, List.length_cons, List.length_nil]; omega
theorem dd_app (n : Nat) : dd n ++ [47, 46, 46] = dd (n + 1) := by
  induction n with
  | zero => rfl
  | succ n ih =>
    have e : dd (n + 1) = [47, 46, 46] ++ dd n := rfl
    rw [e, List.append_assoc, ih]
    rfl
/-- A path that begins with a slash, or is empty: its front is itself. -/
theorem rem_ev (s : ByteArray) (hs : s.size ≤ 2000) (h : bytesOf s = [] ∨ sl (bytesOf s)) : Ev (fun k => dots_Remove.f k s) (strOfNums (remL (s.size + 1) [] (bytesOf s))) := by
  obtain ⟨q, h1, h2, h3⟩ := front_ev s.size s (Nat.le_refl _)
  have hq : q = s := by
    rcases h with h | ⟨t, ht⟩
    · have h0 := bytes_empty.1 h
      exact bytes_inj (by rw [h, bytes_empty]; omega)
    · refine h3 (by rw [← bytesOf_length, ht]; simp) ?_
      have e2 := bt_getD s 0
      rw [show ((0 : Nat) : Int) = 0 from rfl] at e2
      rw [e2, ht]; rfl
  subst hq
  unfold dots_Remove.f
  refine Ev.bind h1 ?_
  simp only [show q.size ≤ 140737488355328 by omega, if_true]
  exact Ev.now _
theorem str_toList (a b : ByteArray) (h : bytesOf a = bytesOf b) : a.toList = b.toList := (toList_iff a b).2 h
theorem j4_ev (cs : List Int) (m : Nat) (hc : Let cs) (hn : cs.length ≤ 30) (hm : m ≤ 5) (s u w : ByteArray) (hs : bytesOf s = segs cs) (hu : bytesOf u = segs cs ++ dd (cs.length + m)) (hw : bytesOf w = if cs.length + m = 0 then [] else [47]) :
    Ev (fun k => monikerlaw23_DotsUp.j4 k s u w) true := by
  have ls := segs_len cs
  have ld := dd_len (cs.length + m)
  have zs : s.size = 2 * cs.length := by rw [← bytesOf_length, hs, ls]
  have zu : u.size = 2 * cs.length + 3 * (cs.length + m) := by rw [← bytesOf_length, hu, List.length_append, ls, ld]
  have dsl : dd (cs.length + m) = [] ∨ sl (dd (cs.length + m)) := by have := dd_sl (cs.length + m) [] (.inl rfl); rwa [List.append_nil] at this
  have r1 := rem_ev u (by omega) (by rw [hu]; exact segs_sl cs _ dsl)
  rw [hu, up_all cs m _ hc (by omega)] at r1
  have bx : bytesOf (u ++ (⟨#[47, 120]⟩ : ByteArray)) = segs cs ++ (dd (cs.length + m) ++ [47, 120]) := by rw [bytes_append, hu, List.append_assoc]; rfl
  have zx : (u ++ (⟨#[47, 120]⟩ : ByteArray)).size = u.size + 2 := by rw [ByteArray.size_append]; rfl
  have r2 := rem_ev (u ++ (⟨#[47, 120]⟩ : ByteArray)) (by omega) (by rw [bx]; exact segs_sl cs _ (dd_sl _ _ (.inr ⟨_, rfl⟩)))
  rw [bx, up_x cs m _ hc (by omega)] at r2
  have bd : bytesOf (s ++ (⟨#[47, 46]⟩ : ByteArray)) = segs cs ++ [47, 46] := by rw [bytes_append, hs]; rfl
  have zd : (s ++ (⟨#[47, 46]⟩ : ByteArray)).size = s.size + 2 := by rw [ByteArray.size_append]; rfl
  have r3 := rem_ev (s ++ (⟨#[47, 46]⟩ : ByteArray)) (by omega) (by rw [bd]; exact segs_sl cs _ (.inr ⟨_, rfl⟩))
  rw [bd, up_dot cs _ hc (by omega)] at r3
  have e1 : (strOfNums (if cs.length + m = 0 then [] else [47])).toList = w.toList := by
    refine str_toList _ _ ?_
    rw [hw, bytes_str]
    intro x hx
    split at hx
    · cases hx
    · simp at hx; omega
  have e2 : (strOfNums [47, 120]).toList = ([47, 120] : List UInt8) := by
    have := str_toList (strOfNums [47, 120]) ⟨#[47, 120]⟩ (by rw [bytes_str _ (by intro x hx; simp at hx; omega)]; rfl)
    rw [this, Lib.toList_data]
  have e3 : (strOfNums (segs cs ++ [47])).toList = (s ++ (⟨#[47]⟩ : ByteArray)).toList := by
    refine str_toList _ _ ?_
    rw [bytes_append, hs, bytes_str]
    · rfl
    · intro x hx
      rcases List.mem_append.1 hx with hx | hx
      · rw [← hs] at hx; exact bytes_range s x hx
      · simp at hx; omega
  refine Ev.step (f := fun k => (dots_Remove.f k u).bind fun t116 => (if t116.toList = w.toList then (if u.size + 2 ≤ 9223372036854775807 then ((dots_Remove.f k (u ++ (⟨#[47, 120]⟩ : ByteArray))).bind fun t117 => (if t117.toList = ([47, 120] : List UInt8) then (if s.size + 2 ≤ 9223372036854775807 then ((dots_Remove.f k (s ++ (⟨#[47, 46]⟩ : ByteArray))).bind fun t118 => (if s.size + 1 ≤ 9223372036854775807 then (if t118.toList = (s ++ (⟨#[47]⟩ : ByteArray)).toList then ((monikerlaw23_awake.f k).bind fun t119 => (some t119)) else (some false)) else (none))) else (none)) else (some false))) else (none)) else (some false))) (fun k => by simp only [monikerlaw23_DotsUp.j4]) ?_
  refine Ev.bind r1 ?_
  simp only [e1, show u.size + 2 ≤ 9223372036854775807 by omega, if_true]
  refine Ev.bind r2 ?_
  simp only [e2, show s.size + 2 ≤ 9223372036854775807 by omega, if_true]
  refine Ev.bind r3 ?_
  simp only [e3, show s.size + 1 ≤ 9223372036854775807 by omega, if_true]
  exact Ev.bind awake_ev (Ev.now _)
theorem rounds_down {n : Nat} {P : Nat → Prop} (h0 : P n) (hs : ∀ i, i < n → P (i + 1) → P i) : ∀ i, i ≤ n → P i := by
  have key : ∀ d i, i + d = n → P i := by
    intro d
    induction d with
    | zero => intro i hi; rw [show i = n by omega]; exact h0
    | succ d ih => intro i hi; exact hs i (by omega) (ih (i + 1) (by omega))
  exact fun i hi => key (n - i) i (by omega)
theorem l2_ev (l : List Int) (hn : l.length ≤ 30) (a1 : Int) (ha : 0 ≤ a1 ∧ a1 ≤ 255) (m : Nat) (hm : (m : Int) = a1 % 5) (s : ByteArray) (hs : bytesOf s = segs (l.map letr)) :
    ∀ j, j ≤ m → ∀ u : ByteArray, bytesOf u = segs (l.map letr) ++ dd (l.length + j) → Ev (fun k => monikerlaw23_DotsUp.l2 k l a1 s u (m : Int) (j : Int)) true := by
  have hw : Int.tmod (wrap64 a1) 5 = (m : Int) := by rw [show wrap64 a1 = a1 by unfold wrap64; omega, Int.tmod_eq_emod_of_nonneg ha.1]; omega
  have hc := let_letr l
  have hlen : (l.map letr).length = l.length := by simp
  apply rounds_down
  · intro u hu
    rw [← hlen] at hu
    by_cases h0 : (l.length : Int) = 0
    · by_cases h1 : m = 0
      · refine Ev.step (f := fun k => monikerlaw23_DotsUp.j3 k s u (⟨#[47]⟩ : ByteArray) true) (fun k => ?_) ?_
        · simp only [monikerlaw23_DotsUp.l2, hw, h0, if_true]
          rw [if_neg (by omega), h1]; rfl
        · refine Ev.step (f := fun k => monikerlaw23_DotsUp.j4 k s u (⟨#[]⟩ : ByteArray)) (fun k => by simp only [monikerlaw23_DotsUp.j3, if_true]) (j4_ev _ m hc (by omega) (by omega) s u _ hs hu ?_)
          rw [if_pos (by omega)]; rfl
      · refine Ev.step (f := fun k => monikerlaw23_DotsUp.j3 k s u (⟨#[47]⟩ : ByteArray) false) (fun k => ?_) ?_
        · simp only [monikerlaw23_DotsUp.l2, hw, h0, if_true]
          rw [if_neg (by omega), show ((m : Int) == 0) = false from beq_eq_false_iff_ne.2 (by omega)]
        · refine Ev.step (f := fun k => monikerlaw23_DotsUp.j4 k s u (⟨#[47]⟩ : ByteArray)) (fun k => by simp only [monikerlaw23_DotsUp.j3, Bool.false_eq_true, if_false]) (j4_ev _ m hc (by omega) (by omega) s u _ hs hu ?_)
          rw [if_neg (by omega)]; rfl
    · refine Ev.step (f := fun k => monikerlaw23_DotsUp.j3 k s u (⟨#[47]⟩ : ByteArray) false) (fun k => ?_) ?_
      · simp only [monikerlaw23_DotsUp.l2, hw, h0, if_false]
        rw [if_neg (by omega)]
      · refine Ev.step (f := fun k => monikerlaw23_DotsUp.j4 k s u (⟨#[47]⟩ : ByteArray)) (fun k => by simp only [monikerlaw23_DotsUp.j3, Bool.false_eq_true, if_false]) (j4_ev _ m hc (by omega) (by omega) s u _ hs hu ?_)
        rw [if_neg (by omega)]; rfl
  · intro j hj ih u hu
    have zu : u.size = 2 * l.length + 3 * (l.length + j) := by rw [← bytesOf_length, hu, List.length_append, segs_len, dd_len, hlen]
    refine Ev.step (fun k => ?_) (ih (u ++ (⟨#[47, 46, 46]⟩ : ByteArray)) (by rw [bytes_append, hu, List.append_assoc, show bytesOf (⟨#[47, 46, 46]⟩ : ByteArray) = [47, 46, 46] from rfl, dd_app]; rfl))
    simp only [monikerlaw23_DotsUp.l2]
    rw [if_pos (by omega), if_pos (by omega), show wrap64 ((j : Int) + 1) = ((j + 1 : Nat) : Int) by unfold wrap64; omega]
theorem l1_ev (l : List Int) (hn : l.length ≤ 30) (a1 : Int) (ha : 0 ≤ a1 ∧ a1 ≤ 255) (s : ByteArray) (hs : bytesOf s = segs (l.map letr)) :
    ∀ j, j ≤ l.length → ∀ u : ByteArray, bytesOf u = segs (l.map letr) ++ dd j → Ev (fun k => monikerlaw23_DotsUp.l1 k l a1 s u (l.length : Int) (j : Int)) true := by
  have hlen : (l.map letr).length = l.length := by simp
  apply rounds_down
  · intro u hu
    obtain ⟨m, hm⟩ : ∃ m : Nat, (m : Int) = a1 % 5 := ⟨(a1 % 5).toNat, by omega⟩
    have hw : Int.tmod (wrap64 a1) 5 = (m : Int) := by rw [show wrap64 a1 = a1 by unfold wrap64; omega, Int.tmod_eq_emod_of_nonneg ha.1]; omega
    refine Ev.step (f := fun k => monikerlaw23_DotsUp.l2 k l a1 s u (m : Int) ((0 : Nat) : Int)) (fun k => ?_) (l2_ev l hn a1 ha m hm s hs 0 (by omega) u hu)
    simp only [monikerlaw23_DotsUp.l1, hw]
    rw [if_neg (by omega)]; rfl
  · intro j hj ih u hu
    have zu : u.size = 2 * l.length + 3 * j := by rw [← bytesOf_length, hu, List.length_append, segs_len, dd_len, hlen]
    refine Ev.step (fun k => ?_) (ih (u ++ (⟨#[47, 46, 46]⟩ : ByteArray)) (by rw [bytes_append, hu, List.append_assoc, show bytesOf (⟨#[47, 46, 46]⟩ : ByteArray) = [47, 46, 46] from rfl, dd_app]))
    simp only [monikerlaw23_DotsUp.l1]
    rw [if_pos (by omega), if_pos (by omega), show wrap64 ((j : Int) + 1) = ((j + 1 : Nat) : Int) by unfold wrap64; omega]
theorem enc_letr (x : Int) (hx : 0 ≤ x ∧ x ≤ 255) : bytesOf (Go.Utf8.encode (wrap32 (wrap64 (97 + (Int.tmod (wrap64 x) 26))))) = [letr x] := by
  have e : wrap32 (wrap64 (97 + (Int.tmod (wrap64 x) 26))) = letr x := by
    rw [show wrap64 x = x by unfold wrap64; omega, Int.tmod_eq_emod_of_nonneg hx.1]
    unfold letr wrap32 wrap64; omega
  rw [e]
  have key : ∀ n : Fin 26, bytesOf (Go.Utf8.encode (97 + (n.val : Int))) = [97 + (n.val : Int)] := by decide +kernel
  have := key ⟨(x % 26).toNat, by omega⟩
  simp only at this
  rw [show (((x % 26).toNat : Nat) : Int) = x % 26 by omega] at this
  exact this
theorem l0_ev (l : List Int) (hl : ∀ x ∈ l, 0 ≤ x ∧ x ≤ 255) (hn : l.length ≤ 30) (a1 : Int) (ha : 0 ≤ a1 ∧ a1 ≤ 255) :
    ∀ i, i ≤ l.length → ∀ s : ByteArray, bytesOf s = segs ((l.take i).map letr) → Ev (fun k => monikerlaw23_DotsUp.l0 k l a1 s l (l.length : Int) (i : Int)) true := by
  apply rounds_down
  · intro s hs
    rw [List.take_length] at hs
    refine Ev.step (f := fun k => monikerlaw23_DotsUp.l1 k l a1 s s (l.length : Int) ((0 : Nat) : Int)) (fun k => ?_) (l1_ev l hn a1 ha s hs 0 (by omega) s (by rw [hs]; simp [dd]))
    simp only [monikerlaw23_DotsUp.l0]
    rw [if_neg (by omega)]; rfl
  · intro i hi ih s hs
    have hrd : rd l (i : Int) = l[i] := by simp [rd, List.getD_eq_getElem?_getD, hi]
    have hb := enc_letr (rd l (i : Int)) (by rw [hrd]; exact hl _ (List.getElem_mem hi))
    obtain ⟨b, hbb⟩ : ∃ b, b = Go.Utf8.encode (wrap32 (wrap64 (97 + (Int.tmod (wrap64 (rd l (i : Int))) 26)))) := ⟨_, rfl⟩
    rw [← hbb] at hb
    have zb : b.size = 1 := by rw [← bytesOf_length, hb]; rfl
    have zs : s.size = 2 * i := by rw [← bytesOf_length, hs, segs_len, List.length_map, List.length_take]; omega
    have z2 : ((⟨#[47]⟩ : ByteArray) ++ b).size = 2 := by rw [ByteArray.size_append, zb]; rfl
    refine Ev.step (fun k => ?_) (ih (s ++ ((⟨#[47]⟩ : ByteArray) ++ b)) ?_)
    · simp only [monikerlaw23_DotsUp.l0, ← hbb]
      rw [if_pos (by omega), if_pos (by omega), if_pos (by omega), if_pos (by omega), if_pos (by omega), show wrap64 ((i : Int) + 1) = ((i + 1 : Nat) : Int) by unfold wrap64; omega]
    · rw [bytes_append, bytes_append, hs, hb, List.take_succ_eq_append_getElem hi, List.map_append, segs_app, hrd]
      simp [segs, bytesOf]
theorem DotsUp : monikerlaw23_DotsUp.Pure := by
  intro l a1 _ _ hl ha
  refine Ev.rounds ?_
  have hl' : ∀ x ∈ l, 0 ≤ x ∧ x ≤ 255 := by
    intro x hx
    have := hl x hx
    simp [Lit.wf, IntKind.min, IntKind.max, IntKind.signed, IntKind.bits] at this
    omega
  have ha' : 0 ≤ a1 ∧ a1 ≤ 255 := by
    simp [Lit.wf, IntKind.min, IntKind.max, IntKind.signed, IntKind.bits] at ha
    omega
  unfold monikerlaw23_DotsUp.f
  by_cases c : (l.length : Int) > 30
  · simp only [c, if_true]
    exact Ev.bind awake_ev (Ev.now _)
  · simp only [c, if_false]
    exact l0_ev l hl' (by omega) a1 ha' 0 (by omega) ⟨#[]⟩ (by rw [List.take_zero]; rfl)

end Go.Proofs.Yteebphjlecmgjaa.Pure
