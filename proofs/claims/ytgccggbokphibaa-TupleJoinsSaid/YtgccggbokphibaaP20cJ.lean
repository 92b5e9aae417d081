/- Plain facts on tuple's document and program: what the document's Split answers, what Join, Fits and Guard answer. No condition but those that each names. -/
import Derived.Test.YtgccggbokphibaaP20bJ
import Derived.Test.YtgccggbokphibaaPJoix7
namespace Go.Proofs.Ytgccggbokphibaa.P20
open Go.RowKit Go.Proofs.Ytgccggbokphibaa.PJoi Go.Proofs.Ytgccggbokphibaa.By Go.Proofs.Ytgccggbokphibaa.Oct Go.Proofs.YtgccggbokphibaaW.PrintWords Go.Proofs.YtgccggbokphibaaW.PrintLast
set_option linter.unusedVariables false

theorem hd_cons_in (set : List Int) (c : Int) (t : List Int) (h : c ∈ set) : hd set (c :: t) = [] := by unfold hd; rw [List.takeWhile_cons]; simp only [h, decide_true, Bool.not_true, Bool.false_eq_true, if_false]
theorem hd_cons_out (set : List Int) (c : Int) (t : List Int) (h : c ∉ set) : hd set (c :: t) = c :: hd set t := by unfold hd; rw [List.takeWhile_cons]; simp only [h, decide_false, Bool.not_false, if_true]
theorem first_ev (s set : ByteArray) (hs : s.size ≤ 100000) (hz : set.size ≤ 1000) : ∀ i : Nat, i ≤ s.size → Ev (fun k => monikerref20_first.l0 k s set (i : Int)) ((i + (hd (bytesOf set) ((bytesOf s).drop i)).length : Nat) : Int) := by
  apply from_end
  · refine Ev.step (f := fun k => some (s.size : Int)) (fun k => ?_) ?_
    · simp only [monikerref20_first.l0]; rw [if_neg (by omega)]
    · rw [drop_end]; exact Ev.now _
  · intro i hi ih
    have hI := In_ev (bt s i) set (by omega)
    rw [drop_bytes s i hi]
    refine Ev.step (f := fun k => (monikerref01_In.f k (bt s (i : Int)) set).bind fun t => if t = true then some (i : Int) else monikerref20_first.l0 k s set ((i + 1 : Nat) : Int)) (fun k => ?_) (Ev.bind hI ?_)
    · simp only [monikerref20_first.l0]
      rw [if_pos (by omega), if_pos (by omega), Oct.w64 (by omega) (by omega)]; rfl
    · by_cases h : bt s (i : Int) ∈ bytesOf set
      · simp only [h, decide_true, if_true, hd_cons_in _ _ _ h]
        exact Ev.now _
      · simp only [h, decide_false, Bool.false_eq_true, if_false, hd_cons_out _ _ _ h, List.length_cons]
        rw [show i + ((hd (bytesOf set) ((bytesOf s).drop (i + 1))).length + 1) = i + 1 + (hd (bytesOf set) ((bytesOf s).drop (i + 1))).length by omega]
        exact ih
theorem head_bt (s : ByteArray) (i : Nat) (hi : i < s.size) (c : Int) : (((bytesOf s).drop i).head? = some c) ↔ bt s (i : Int) = c := by
  rw [drop_bytes s i hi]; simp
theorem drop_nil (s : ByteArray) (i : Nat) (hi : ¬ i < s.size) : (bytesOf s).drop i = [] := List.drop_eq_nil_of_le (by rw [bytesOf_length]; omega)
theorem rest_eq (s : ByteArray) (i : Nat) (hi : i ≤ s.size) : s.extract i s.size = strOfNums ((bytesOf s).drop i) := by
  rw [cut_is, List.take_of_length_le (by rw [List.length_drop, bytesOf_length]; omega)]
theorem mid_eq (set : List Int) (s : ByteArray) (i : Nat) : s.extract i (i + (hd set ((bytesOf s).drop i)).length) = strOfNums (hd set ((bytesOf s).drop i)) := by
  rw [cut_is, Nat.add_sub_cancel_left, hd_take]
theorem tl_eq (set : List Int) (s : ByteArray) (i : Nat) : (bytesOf s).drop (i + (hd set ((bytesOf s).drop i)).length) = tl set ((bytesOf s).drop i) := by
  rw [← List.drop_drop, hd_drop]
theorem hd_in (set : List Int) (s : ByteArray) (i : Nat) (hi : i ≤ s.size) : i + (hd set ((bytesOf s).drop i)).length ≤ s.size := by
  have := hd_len set ((bytesOf s).drop i)
  rw [List.length_drop, bytesOf_length] at this
  omega
theorem rj4_ev (s : ByteArray) (hs : s.size ≤ 100000) (i : Nat) (hi : i ≤ s.size) (hb : Beg SP ((bytesOf s).drop i)) (x0 : ByteArray) (x1 : Bool) (x2 x3 : ByteArray) :
    Ev (fun k => monikerref20_Split.j4 k s (i : Int) (decide (((bytesOf s).drop i).head? = some 63)) x0 x1 x2 x3 false (⟨#[]⟩ : ByteArray) false (⟨#[]⟩ : ByteArray)) (x0, x1, x2, x3, (s4 ((bytesOf s).drop i)).1, strOfNums (s4 ((bytesOf s).drop i)).2.1, (s5 (s4 ((bytesOf s).drop i)).2.2).1, strOfNums (s5 (s4 ((bytesOf s).drop i)).2.2).2) := by
  have w1 : wrap64 ((i : Int) + 1) = ((i + 1 : Nat) : Int) := by unfold wrap64; omega
  by_cases h : ((bytesOf s).drop i).head? = some 63
  · have hlt : i < s.size := by
      rcases Nat.lt_or_ge i s.size with h1 | h1
      · exact h1
      · rw [drop_nil s i (by omega)] at h; cases h
    have htl : ((bytesOf s).drop i).tail = (bytesOf s).drop (i + 1) := by rw [drop_bytes s i hlt]; rfl
    have e4 : s4 ((bytesOf s).drop i) = (true, hd SQ ((bytesOf s).drop (i + 1)), tl SQ ((bytesOf s).drop (i + 1))) := by unfold s4; rw [if_pos h, htl]
    rw [e4]
    have fe := first_ev s (⟨#[35]⟩ : ByteArray) hs (by decide) (i + 1) (by omega)
    rw [show bytesOf (⟨#[35]⟩ : ByteArray) = SQ from rfl] at fe
    have hin := hd_in SQ s (i + 1) (by omega)
    have hm := mid_eq SQ s (i + 1)
    have ht := tl_eq SQ s (i + 1)
    obtain ⟨j, hj⟩ : ∃ j, j = i + 1 + (hd SQ ((bytesOf s).drop (i + 1))).length := ⟨_, rfl⟩
    rw [← hj] at fe hin hm ht
    have ej : ((j : Int)).toNat = j := by omega
    have ei : (((i + 1 : Nat) : Int)).toNat = i + 1 := by omega
    refine Ev.step (f := fun k => (monikerref20_first.f k s ((i + 1 : Nat) : Int) (⟨#[35]⟩ : ByteArray)).bind fun t208 => (if 0 ≤ ((i + 1 : Nat) : Int) then (if ((i + 1 : Nat) : Int) ≤ t208 then (if t208 ≤ (s.size : Int) then (if t208 < (s.size : Int) then (if 0 ≤ (wrap64 (t208 + 1)) then (if (wrap64 (t208 + 1)) ≤ (s.size : Int) then (some (x0, x1, x2, x3, true, s.extract (((i + 1 : Nat) : Int) : Int).toNat (t208 : Int).toNat, true, s.extract ((wrap64 (t208 + 1)) : Int).toNat s.size)) else (none)) else (none)) else (some (x0, x1, x2, x3, true, s.extract (((i + 1 : Nat) : Int) : Int).toNat (t208 : Int).toNat, false, (⟨#[]⟩ : ByteArray)))) else (none)) else (none)) else (none))) (fun k => ?_) (Ev.bind fe ?_)
    · simp only [monikerref20_Split.j4, decide_eq_true h, if_true, w1]
    · have k1 : 0 ≤ ((i + 1 : Nat) : Int) := by omega
      have k2 : ((i + 1 : Nat) : Int) ≤ (j : Int) := by omega
      have k3 : (j : Int) ≤ (s.size : Int) := by omega
      simp only [k1, k2, k3, if_true, ej, ei, hm]
      by_cases hjl : j < s.size
      · have k4 : (j : Int) < (s.size : Int) := by omega
        have w2 : wrap64 ((j : Int) + 1) = ((j + 1 : Nat) : Int) := by unfold wrap64; omega
        have k5 : 0 ≤ ((j + 1 : Nat) : Int) := by omega
        have k6 : ((j + 1 : Nat) : Int) ≤ (s.size : Int) := by omega
        have ej1 : (((j + 1 : Nat) : Int)).toNat = j + 1 := by omega
        have e5 : s5 (tl SQ ((bytesOf s).drop (i + 1))) = (true, (bytesOf s).drop (j + 1)) := by
          rw [← ht]
          have hbt := tl_head SQ ((bytesOf s).drop (i + 1))
          rw [← ht] at hbt
          rw [drop_bytes s j hjl] at hbt ⊢
          rcases hbt with h9 | ⟨c, t, h9, hc⟩
          · cases h9
          · injection h9 with h9 _
            have : c = 35 := by simpa [SQ] using hc
            unfold s5
            rw [h9, this]
            simp
        simp only [k4, if_true, w2, k5, k6, ej1, e5, rest_eq s (j + 1) (by omega)]
        exact Ev.now _
      · have k4 : ¬ (j : Int) < (s.size : Int) := by omega
        have e5 : s5 (tl SQ ((bytesOf s).drop (i + 1))) = (false, []) := by
          rw [← ht, drop_nil s j hjl]; rfl
        simp only [k4, if_false, e5]
        exact Ev.now _
  · have e4 : s4 ((bytesOf s).drop i) = (false, [], (bytesOf s).drop i) := by unfold s4; rw [if_neg h]
    rw [e4]
    by_cases hlt : i < s.size
    · have k1 : (i : Int) < (s.size : Int) := by omega
      have k2 : 0 ≤ ((i + 1 : Nat) : Int) := by omega
      have k3 : ((i + 1 : Nat) : Int) ≤ (s.size : Int) := by omega
      have ei : (((i + 1 : Nat) : Int)).toNat = i + 1 := by omega
      have e5 : s5 ((bytesOf s).drop i) = (true, (bytesOf s).drop (i + 1)) := by
        rw [drop_bytes s i hlt] at hb h ⊢
        rcases hb with h9 | ⟨c, t, h9, hc⟩
        · cases h9
        · injection h9 with h9 _
          have : c = 35 := by
            have hc2 : c = 63 ∨ c = 35 := by simpa [SP] using hc
            rcases hc2 with rfl | rfl
            · rw [h9] at h; simp at h
            · rfl
          unfold s5
          rw [h9, this]
          simp
      refine Ev.step (f := fun k => some _) (fun k => ?_) (Ev.now _)
      simp only [monikerref20_Split.j4, decide_eq_false h, Bool.false_eq_true, if_false, w1, k1, k2, k3, if_true, ei, e5, rest_eq s (i + 1) (by omega)]
      rfl
    · have k1 : ¬ (i : Int) < (s.size : Int) := by omega
      have e5 : s5 ((bytesOf s).drop i) = (false, []) := by rw [drop_nil s i hlt]; rfl
      refine Ev.step (f := fun k => some _) (fun k => ?_) (Ev.now _)
      simp only [monikerref20_Split.j4, decide_eq_false h, Bool.false_eq_true, if_false, k1, e5]
      rfl
theorem rj3_ev (s : ByteArray) (hs : s.size ≤ 100000) (i : Nat) (hi : i ≤ s.size) (x0 : ByteArray) (x1 : Bool) (x2 : ByteArray) :
    Ev (fun k => monikerref20_Split.j3 k s (i : Int) x0 x1 x2 (⟨#[]⟩ : ByteArray) false (⟨#[]⟩ : ByteArray) false (⟨#[]⟩ : ByteArray)) (x0, x1, x2, strOfNums (hd SP ((bytesOf s).drop i)), (s4 (tl SP ((bytesOf s).drop i))).1, strOfNums (s4 (tl SP ((bytesOf s).drop i))).2.1, (s5 (s4 (tl SP ((bytesOf s).drop i))).2.2).1, strOfNums (s5 (s4 (tl SP ((bytesOf s).drop i))).2.2).2) := by
  have fe := first_ev s (⟨#[63, 35]⟩ : ByteArray) hs (by decide) i hi
  rw [show bytesOf (⟨#[63, 35]⟩ : ByteArray) = SP from rfl] at fe
  have hin := hd_in SP s i hi
  have hm := mid_eq SP s i
  have ht := tl_eq SP s i
  have hbeg := tl_head SP ((bytesOf s).drop i)
  obtain ⟨j, hj⟩ : ∃ j, j = i + (hd SP ((bytesOf s).drop i)).length := ⟨_, rfl⟩
  rw [← hj] at fe hin hm ht
  rw [← ht] at hbeg ⊢
  have ej : ((j : Int)).toNat = j := by omega
  have ei : ((i : Int)).toNat = i := by omega
  have r4 := rj4_ev s hs j hin hbeg x0 x1 x2 (strOfNums (hd SP ((bytesOf s).drop i)))
  refine Ev.step (f := fun k => (monikerref20_first.f k s (i : Int) (⟨#[63, 35]⟩ : ByteArray)).bind fun t207 => (if 0 ≤ (i : Int) then (if (i : Int) ≤ t207 then (if t207 ≤ (s.size : Int) then (if t207 < (s.size : Int) then (if 0 ≤ t207 then (monikerref20_Split.j4 k s t207 ((bt s t207) == 63) x0 x1 x2 (s.extract (i : Int).toNat (t207 : Int).toNat) false (⟨#[]⟩ : ByteArray) false (⟨#[]⟩ : ByteArray)) else (none)) else (monikerref20_Split.j4 k s t207 false x0 x1 x2 (s.extract (i : Int).toNat (t207 : Int).toNat) false (⟨#[]⟩ : ByteArray) false (⟨#[]⟩ : ByteArray))) else (none)) else (none)) else (none))) (fun k => by simp only [monikerref20_Split.j3]) (Ev.bind fe ?_)
  have k1 : 0 ≤ (i : Int) := by omega
  have k2 : (i : Int) ≤ (j : Int) := by omega
  have k3 : (j : Int) ≤ (s.size : Int) := by omega
  have k5 : 0 ≤ (j : Int) := by omega
  simp only [k1, k2, k3, k5, if_true, ej, ei, hm]
  by_cases hjl : j < s.size
  · have k4 : (j : Int) < (s.size : Int) := by omega
    have e : (bt s (j : Int) == 63) = decide (((bytesOf s).drop j).head? = some 63) := by
      rw [Bool.eq_iff_iff, beq_iff_eq, decide_eq_true_iff, head_bt s j hjl]
    simp only [k4, if_true, e]
    exact r4
  · have k4 : ¬ (j : Int) < (s.size : Int) := by omega
    have e : false = decide (((bytesOf s).drop j).head? = some 63) := by rw [drop_nil s j hjl]; rfl
    simp only [k4, if_false]
    rw [← e] at r4
    exact r4
theorem rj1_ev (s : ByteArray) (hs : s.size ≤ 100000) (i : Nat) (hi : i ≤ s.size) (x0 : ByteArray) (l : List Int) (hl : l = (bytesOf s).drop i) :
    Ev (fun k => monikerref20_Split.j1 k s (i : Int) x0 false (⟨#[]⟩ : ByteArray) (⟨#[]⟩ : ByteArray) false (⟨#[]⟩ : ByteArray) false (⟨#[]⟩ : ByteArray)) (x0, (s2 l).1, strOfNums (s2 l).2.1, strOfNums (hd SP (s2 l).2.2), (s4 (tl SP (s2 l).2.2)).1, strOfNums (s4 (tl SP (s2 l).2.2)).2.1, (s5 (s4 (tl SP (s2 l).2.2)).2.2).1, strOfNums (s5 (s4 (tl SP (s2 l).2.2)).2.2).2) := by
  have wz : wrap64 ((s.size : Int) - (i : Int)) = (s.size : Int) - i := Oct.w64 (by omega) (by omega)
  have w1 : wrap64 ((i : Int) + 1) = ((i + 1 : Nat) : Int) := by unfold wrap64; omega
  have w2 : wrap64 ((i : Int) + 2) = ((i + 2 : Nat) : Int) := by unfold wrap64; omega
  have key : Ev (fun k => monikerref20_Split.j2 k s (i : Int) (decide (l.take 2 = [47, 47])) x0 false (⟨#[]⟩ : ByteArray) (⟨#[]⟩ : ByteArray) false (⟨#[]⟩ : ByteArray) false (⟨#[]⟩ : ByteArray)) (x0, (s2 l).1, strOfNums (s2 l).2.1, strOfNums (hd SP (s2 l).2.2), (s4 (tl SP (s2 l).2.2)).1, strOfNums (s4 (tl SP (s2 l).2.2)).2.1, (s5 (s4 (tl SP (s2 l).2.2)).2.2).1, strOfNums (s5 (s4 (tl SP (s2 l).2.2)).2.2).2) := by
    by_cases h : l.take 2 = [47, 47]
    · have hlen : i + 2 ≤ s.size := by
        have := congrArg List.length h
        rw [List.length_take, hl, List.length_drop, bytesOf_length] at this
        simp at this; omega
      have e2 : s2 l = (true, hd SA ((bytesOf s).drop (i + 2)), tl SA ((bytesOf s).drop (i + 2))) := by unfold s2; rw [if_pos h, hl, List.drop_drop]
      rw [e2]
      have fe := first_ev s (⟨#[47, 63, 35]⟩ : ByteArray) hs (by decide) (i + 2) hlen
      rw [show bytesOf (⟨#[47, 63, 35]⟩ : ByteArray) = SA from rfl] at fe
      have hin := hd_in SA s (i + 2) hlen
      have hm := mid_eq SA s (i + 2)
      have ht := tl_eq SA s (i + 2)
      obtain ⟨j, hj⟩ : ∃ j, j = i + 2 + (hd SA ((bytesOf s).drop (i + 2))).length := ⟨_, rfl⟩
      rw [← hj] at fe hin hm ht
      rw [← ht]
      have ej : ((j : Int)).toNat = j := by omega
      have ei : (((i + 2 : Nat) : Int)).toNat = i + 2 := by omega
      have r3 := rj3_ev s hs j hin x0 true (strOfNums (hd SA ((bytesOf s).drop (i + 2))))
      refine Ev.step (f := fun k => (monikerref20_first.f k s ((i + 2 : Nat) : Int) (⟨#[47, 63, 35]⟩ : ByteArray)).bind fun t206 => (if 0 ≤ ((i + 2 : Nat) : Int) then (if ((i + 2 : Nat) : Int) ≤ t206 then (if t206 ≤ (s.size : Int) then (monikerref20_Split.j3 k s t206 x0 true (s.extract (((i + 2 : Nat) : Int) : Int).toNat (t206 : Int).toNat) (⟨#[]⟩ : ByteArray) false (⟨#[]⟩ : ByteArray) false (⟨#[]⟩ : ByteArray)) else (none)) else (none)) else (none))) (fun k => by simp only [monikerref20_Split.j2, decide_eq_true h, if_true, w2]) (Ev.bind fe ?_)
      have k1 : 0 ≤ ((i + 2 : Nat) : Int) := by omega
      have k2 : ((i + 2 : Nat) : Int) ≤ (j : Int) := by omega
      have k3 : (j : Int) ≤ (s.size : Int) := by omega
      simp only [k1, k2, k3, if_true, ej, ei, hm]
      exact r3
    · have e2 : s2 l = (false, [], l) := by unfold s2; rw [if_neg h]
      rw [e2]
      have r3 := rj3_ev s hs i hi x0 false (⟨#[]⟩ : ByteArray)
      rw [← hl] at r3
      exact Ev.step (fun k => by simp only [monikerref20_Split.j2, decide_eq_false h, Bool.false_eq_true, if_false]) r3
  by_cases h2 : i + 2 ≤ s.size
  · have hd1 := drop_bytes s i (by omega)
    have hd2 := drop_bytes s (i + 1) (by omega)
    have e : (l.take 2 = [47, 47]) ↔ (bt s (i : Int) = 47 ∧ bt s ((i + 1 : Nat) : Int) = 47) := by
      rw [hl, hd1, hd2]; simp
    have k1 : (s.size : Int) - (i : Int) ≥ 2 := by omega
    have k2 : 0 ≤ (i : Int) := by omega
    have k3 : (i : Int) < (s.size : Int) := by omega
    have k4 : 0 ≤ ((i + 1 : Nat) : Int) := by omega
    have k5 : ((i + 1 : Nat) : Int) < (s.size : Int) := by omega
    refine Ev.step (fun k => ?_) key
    simp only [monikerref20_Split.j1, wz, w1, k1, k2, k3, k4, k5, if_true]
    by_cases h47 : bt s (i : Int) = 47
    · rw [if_pos h47]
      congr 1
      rw [Bool.eq_iff_iff, beq_iff_eq, decide_eq_true_iff, e]
      exact ⟨fun x => ⟨h47, x⟩, fun x => x.2⟩
    · rw [if_neg h47, decide_eq_false (fun x => h47 (e.1 x).1)]
  · have k1 : ¬ (s.size : Int) - (i : Int) ≥ 2 := by omega
    have hne : ¬ l.take 2 = [47, 47] := by
      intro h
      have := congrArg List.length h
      rw [List.length_take, hl, List.length_drop, bytesOf_length] at this
      simp at this; omega
    refine Ev.step (fun k => ?_) key
    simp only [monikerref20_Split.j1, wz, k1, if_false, decide_eq_false hne]
theorem refSplit_ev (s : ByteArray) (hs : s.size ≤ 100000) : Ev (fun k => monikerref20_Split.f k s) (toT (split (bytesOf s))) := by
  have fe := first_ev s (⟨#[58, 47, 63, 35]⟩ : ByteArray) hs (by decide) 0 (Nat.zero_le _)
  rw [show bytesOf (⟨#[58, 47, 63, 35]⟩ : ByteArray) = SS from rfl, List.drop_zero] at fe
  have hin := hd_in SS s 0 (Nat.zero_le _)
  have hm := mid_eq SS s 0
  have ht := tl_eq SS s 0
  rw [List.drop_zero] at hin hm ht
  obtain ⟨j, hj⟩ : ∃ j, j = 0 + (hd SS (bytesOf s)).length := ⟨_, rfl⟩
  rw [← hj] at fe hin hm ht
  have ej : ((j : Int)).toNat = j := by omega
  have hne : (hd SS (bytesOf s) ≠ []) ↔ 0 < j := by
    rw [hj, Nat.zero_add, List.length_pos_iff]
  have hB := Byt.of s
  have r0 : Ev (fun k => monikerref20_Split.j0 k s ((0 : Nat) : Int) (j : Int) (decide (hd SS (bytesOf s) ≠ [] ∧ (tl SS (bytesOf s)).head? = some 58)) (⟨#[]⟩ : ByteArray) false (⟨#[]⟩ : ByteArray) (⟨#[]⟩ : ByteArray) false (⟨#[]⟩ : ByteArray) false (⟨#[]⟩ : ByteArray)) (toT (split (bytesOf s))) := by
    unfold split toT
    simp only
    by_cases h : hd SS (bytesOf s) ≠ [] ∧ (tl SS (bytesOf s)).head? = some 58
    · have e1 : s1 (bytesOf s) = (hd SS (bytesOf s), (tl SS (bytesOf s)).tail) := by unfold s1; rw [if_pos h]
      rw [e1]
      have hjl : j < s.size := by
        rcases Nat.lt_or_ge j s.size with h1 | h1
        · exact h1
        · have := h.2; rw [← ht, drop_nil s j (by omega)] at this; cases this
      have r1 := rj1_ev s hs (j + 1) (by omega) (strOfNums (hd SS (bytesOf s))) (tl SS (bytesOf s)).tail (by rw [← ht, drop_bytes s j hjl]; rfl)
      refine Ev.step (fun k => ?_) r1
      have w1 : wrap64 ((j : Int) + 1) = ((j + 1 : Nat) : Int) := by unfold wrap64; omega
      have k1 : 0 ≤ (j : Int) := by omega
      have k2 : (j : Int) ≤ (s.size : Int) := by omega
      simp only [monikerref20_Split.j0, decide_eq_true h, if_true, k1, k2, w1, ej, hm]
    · have e1 : s1 (bytesOf s) = ([], bytesOf s) := by unfold s1; rw [if_neg h]
      rw [e1]
      refine Ev.step (fun k => ?_) (rj1_ev s hs 0 (Nat.zero_le _) (⟨#[]⟩ : ByteArray) (bytesOf s) rfl)
      simp only [monikerref20_Split.j0, decide_eq_false h, Bool.false_eq_true, if_false]
  unfold monikerref20_Split.f
  refine Ev.bind fe ?_
  by_cases h0 : 0 < j
  · have k1 : (j : Int) > 0 := by omega
    by_cases hjl : j < s.size
    · have k2 : (j : Int) < (s.size : Int) := by omega
      have k3 : 0 ≤ (j : Int) := by omega
      simp only [k1, k2, k3, if_true]
      have e : (bt s (j : Int) == 58) = decide (hd SS (bytesOf s) ≠ [] ∧ (tl SS (bytesOf s)).head? = some 58) := by
        rw [Bool.eq_iff_iff, beq_iff_eq, decide_eq_true_iff, hne, ← ht, head_bt s j hjl]
        exact ⟨fun x => ⟨h0, x⟩, fun x => x.2⟩
      rw [e]
      exact r0
    · have k2 : ¬ (j : Int) < (s.size : Int) := by omega
      simp only [k1, k2, if_true, if_false]
      have e : false = decide (hd SS (bytesOf s) ≠ [] ∧ (tl SS (bytesOf s)).head? = some 58) := by
        rw [← ht, drop_nil s j hjl]; simp
      rw [← e] at r0
      exact r0
  · have k1 : ¬ (j : Int) > 0 := by omega
    simp only [k1, if_false]
    have e : false = decide (hd SS (bytesOf s) ≠ [] ∧ (tl SS (bytesOf s)).head? = some 58) := (decide_eq_false (fun x => h0 (hne.1 x.1))).symm
    rw [← e] at r0
    exact r0
end Go.Proofs.Ytgccggbokphibaa.P20
