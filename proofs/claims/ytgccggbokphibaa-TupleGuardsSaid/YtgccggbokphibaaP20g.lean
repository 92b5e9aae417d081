/- Plain facts on tuple's Guard and the document's. No condition but those that each names. -/
import Derived.Test.YtgccggbokphibaaP20bG
namespace Go.Proofs.Ytgccggbokphibaa.P20
open Go.RowKit Go.Proofs.Ytgccggbokphibaa.PAll Go.Proofs.Ytgccggbokphibaa.By Go.Proofs.Ytgccggbokphibaa.Oct Go.Proofs.YtgccggbokphibaaW.PrintWords Go.Proofs.YtgccggbokphibaaW.PrintLast
set_option linter.unusedVariables false

theorem hd_cons_in (set : List Int) (c : Int) (t : List Int) (h : c ∈ set) : hd set (c :: t) = [] := by unfold hd; rw [List.takeWhile_cons]; simp only [h, decide_true, Bool.not_true, Bool.false_eq_true, if_false]
theorem hd_cons_out (set : List Int) (c : Int) (t : List Int) (h : c ∉ set) : hd set (c :: t) = c :: hd set t := by unfold hd; rw [List.takeWhile_cons]; simp only [h, decide_false, Bool.not_false, if_true]
theorem first_ev (s set : ByteArray) (hs : s.size ≤ 100000) (hz : set.size ≤ 1000) : ∀ i : Nat, i ≤ s.size → Ev (fun k => monikerref20_first.l0 k s set (i : Int)) ((i + (hd (bytesOf set) ((bytesOf s).drop i)).length : Nat) : Int) := by
  apply from_end
  · refine Ev.step (f := fun k => some (s.size : Int)) (fun k => ?_) ?_
    · simp only [monikerref20_first.l0]; rw [if_neg (by omega)]
    · rw [drop_end]; exact Ev.now _
  · intro i hi ih
    have hI := In_ev (bt s i) set (by omega)
    rw [drop_bytes s i hi]
    refine Ev.step (f := fun k => (monikerref01_In.f k (bt s (i : Int)) set).bind fun t => if t = true then some (i : Int) else monikerref20_first.l0 k s set ((i + 1 : Nat) : Int)) (fun k => ?_) (Ev.bind hI ?_)
    · simp only [monikerref20_first.l0]
      rw [if_pos (by omega), if_pos (by omega), Oct.w64 (by omega) (by omega)]; rfl
    · by_cases h : bt s (i : Int) ∈ bytesOf set
      · simp only [h, decide_true, if_true, hd_cons_in _ _ _ h]
        exact Ev.now _
      · simp only [h, decide_false, Bool.false_eq_true, if_false, hd_cons_out _ _ _ h, List.length_cons]
        rw [show i + ((hd (bytesOf set) ((bytesOf s).drop (i + 1))).length + 1) = i + 1 + (hd (bytesOf set) ((bytesOf s).drop (i + 1))).length by omega]
        exact ih
theorem head_bt (s : ByteArray) (i : Nat) (hi : i < s.size) (c : Int) : (((bytesOf s).drop i).head? = some c) ↔ bt s (i : Int) = c := by
  rw [drop_bytes s i hi]; simp
theorem drop_nil (s : ByteArray) (i : Nat) (hi : ¬ i < s.size) : (bytesOf s).drop i = [] := List.drop_eq_nil_of_le (by rw [bytesOf_length]; omega)
theorem rest_eq (s : ByteArray) (i : Nat) (hi : i ≤ s.size) : s.extract i s.size = strOfNums ((bytesOf s).drop i) := by
  rw [cut_is, List.take_of_length_le (by rw [List.length_drop, bytesOf_length]; omega)]
theorem mid_eq (set : List Int) (s : ByteArray) (i : Nat) : s.extract i (i + (hd set ((bytesOf s).drop i)).length) = strOfNums (hd set ((bytesOf s).drop i)) := by
  rw [cut_is, Nat.add_sub_cancel_left, hd_take]
theorem tl_eq (set : List Int) (s : ByteArray) (i : Nat) : (bytesOf s).drop (i + (hd set ((bytesOf s).drop i)).length) = tl set ((bytesOf s).drop i) := by
  rw [← List.drop_drop, hd_drop]
theorem hd_in (set : List Int) (s : ByteArray) (i : Nat) (hi : i ≤ s.size) : i + (hd set ((bytesOf s).drop i)).length ≤ s.size := by
  have := hd_len set ((bytesOf s).drop i)
  rw [List.length_drop, bytesOf_length] at this
  omega
theorem nil_iff (s : ByteArray) : (s.toList = ([] : List UInt8)) ↔ bytesOf s = [] := by
  have := toList_nil (bytesOf s) (Byt.of s)
  rwa [S_B] at this
theorem one_eq (l : List UInt8) (c : UInt8) : Lib.indexByte l c = if tl [nn c] (l.map nn) = [] then -1 else ((hd [nn c] (l.map nn)).length : Int) := by
  rw [← Lib.indexAny_one]; exact ia_eq [c] l
theorem tl_cons_in (set : List Int) (c : Int) (t : List Int) (h : c ∈ set) : tl set (c :: t) = c :: t := by unfold tl; rw [List.dropWhile_cons]; simp only [h, decide_true, Bool.not_true, Bool.false_eq_true, if_false]
theorem tl_cons_out (set : List Int) (c : Int) (t : List Int) (h : c ∉ set) : tl set (c :: t) = tl set t := by unfold tl; rw [List.dropWhile_cons]; simp only [h, decide_false, Bool.not_false, if_true]
theorem colon_is : ∀ l : List Int, hd [58] (hd [47] l) = hd [47, 58] l ∧ (tl [58] (hd [47] l) ≠ [] ↔ (tl [47, 58] l).head? = some 58)
  | [] => ⟨rfl, by simp [hd, tl]⟩
  | c :: t => by
    have ih := colon_is t
    by_cases h1 : c = 47
    · subst h1
      rw [hd_cons_in [47] 47 t (by simp), hd_cons_in [47, 58] 47 t (by simp), tl_cons_in [47, 58] 47 t (by simp)]
      exact ⟨rfl, by simp [tl]⟩
    · rw [hd_cons_out [47] c t (by simp [h1])]
      by_cases h2 : c = 58
      · subst h2
        rw [hd_cons_in [58] 58 _ (by simp), hd_cons_in [47, 58] 58 t (by simp), tl_cons_in [47, 58] 58 t (by simp), tl_cons_in [58] 58 _ (by simp)]
        exact ⟨rfl, by simp⟩
      · rw [hd_cons_out [58] c _ (by simp [h2]), hd_cons_out [47, 58] c t (by simp [h1, h2]), tl_cons_out [47, 58] c t (by simp [h1, h2]), tl_cons_out [58] c _ (by simp [h2]), ih.1]
        exact ⟨rfl, ih.2⟩
theorem colon_eq (s : ByteArray) (hs : s.size ≤ 100000) : tuple_colon.f s = some (if (tl [47, 58] (bytesOf s)).head? = some 58 then ((hd [47, 58] (bytesOf s)).length : Int) else -1) := by
  unfold tuple_colon.f
  rw [upTo_eq s _ hs (by decide)]
  simp only [Option.bind_some, strings_IndexByte.f]
  have e47 : bytesOf (⟨#[47]⟩ : ByteArray) = [47] := rfl
  rw [e47, one_eq]
  have e : [nn (Int.toNat 58).toUInt8] = [58] := rfl
  rw [e, ← bytes_nn, B_S (Byt.of s).hd]
  have hc := colon_is (bytesOf s)
  rw [hc.1]
  by_cases h : tl [58] (hd [47] (bytesOf s)) = []
  · rw [if_pos h, if_neg (fun x => (hc.2.2 x) h)]
  · rw [if_neg h, if_pos (hc.2.1 h)]
theorem long_eq (a0 : ByteArray) (a1 : Bool) (a2 a3 : ByteArray) (a4 : Bool) (a5 : ByteArray) (a6 : Bool) (a7 : ByteArray) (h0 : a0.size ≤ 140737488351232) (h2 : a2.size ≤ 140737488351232) (h3 : a3.size ≤ 140737488351232) (h5 : a5.size ≤ 140737488351232) (h7 : a7.size ≤ 140737488351232) :
    monikerlaw20_long.f a0 a1 a2 a3 a4 a5 a6 a7 = some (decide (¬ (a0.size + a2.size ≤ 200 ∧ a3.size ≤ 200 ∧ a5.size + a7.size ≤ 200))) := by
  unfold monikerlaw20_long.f
  rw [Oct.w64 (x := (a0.size : Int) + (a2.size : Int)) (by omega) (by omega), Oct.w64 (x := (a5.size : Int) + (a7.size : Int)) (by omega) (by omega)]
  by_cases c1 : (a0.size : Int) + (a2.size : Int) > 200
  · rw [if_pos c1, decide_eq_true (by omega)]
  rw [if_neg c1]
  by_cases c2 : (a3.size : Int) > 200
  · rw [if_pos c2, decide_eq_true (by omega)]
  rw [if_neg c2]
  congr 1
  exact decide_eq_decide.2 (by omega)
theorem guard_both (a0 : ByteArray) (a1 : Bool) (a2 a3 : ByteArray) (a4 : Bool) (a5 : ByteArray) (a6 : Bool) (a7 : ByteArray) (h3 : a3.size ≤ 1000) :
    ∃ g, tuple_Guard.f a0 a1 a2 a3 a4 a5 a6 a7 = some (a0, a1, a2, g, a4, a5, a6, a7) ∧ Ev (fun k => monikerref20_Guard.f k a0 a1 a2 a3 a4 a5 a6 a7) g := by
  have l1 : 1 + a3.size ≤ 9223372036854775807 := by omega
  have l2 : 2 + a3.size ≤ 9223372036854775807 := by omega
  unfold tuple_Guard.f monikerref20_Guard.f
  cases a1 with
  | true =>
    simp only [if_true]
    by_cases c1 : a3.toList = ([] : List UInt8)
    · refine ⟨a3, by rw [if_pos c1], ?_⟩
      simp only [c1, if_true]; exact Ev.now _
    · have hb : bytesOf a3 ≠ [] := fun x => c1 ((nil_iff a3).2 x)
      have hz : 0 < (a3.size : Int) := by
        have := List.length_pos_iff.2 hb
        rw [bytesOf_length] at this; omega
      by_cases c2 : bt a3 0 = 47
      · refine ⟨a3, by rw [if_neg c1, if_pos hz, if_pos c2], ?_⟩
        simp only [c1, hz, c2, if_true, if_false]; exact Ev.now _
      · refine ⟨(⟨#[47]⟩ : ByteArray) ++ a3, by rw [if_neg c1, if_pos hz, if_neg c2, if_pos l1], ?_⟩
        simp only [c1, hz, c2, l1, if_true, if_false]; exact Ev.now _
  | false =>
    have e47 : bytesOf (⟨#[47, 47]⟩ : ByteArray) = [47, 47] := rfl
    have z47 : (⟨#[47, 47]⟩ : ByteArray).size = 2 := rfl
    have hp := has_eq a3 (⟨#[47, 47]⟩ : ByteArray)
    rw [e47, z47] at hp
    have href : ∀ g, Ev (fun k => monikerref20_Guard.j0 k a3 (decide ((bytesOf a3).take 2 = [47, 47])) a0 false a2 a3 a4 a5 a6 a7) g → Ev (fun k => if false = true then (if a3.toList = ([] : List UInt8) then (some a3) else (if 0 < (a3.size : Int) then (if (bt a3 0) = 47 then (some a3) else (if 1 + a3.size ≤ 9223372036854775807 then (some ((⟨#[47]⟩ : ByteArray) ++ a3)) else (none))) else (none))) else (if (a3.size : Int) > 1 then (if 0 ≤ 2 then (if 2 ≤ (a3.size : Int) then (monikerref20_Guard.j0 k a3 ((a3.extract 0 2).toList == ([47, 47] : List UInt8)) a0 false a2 a3 a4 a5 a6 a7) else (none)) else (none)) else (monikerref20_Guard.j0 k a3 false a0 false a2 a3 a4 a5 a6 a7))) g := by
      intro g hg
      by_cases c1 : (a3.size : Int) > 1
      · have c2 : 2 ≤ (a3.size : Int) := by omega
        have e : ((a3.extract 0 2).toList == ([47, 47] : List UInt8)) = decide ((bytesOf a3).take 2 = [47, 47]) := by
          have h9 := toList_beq (a3.extract 0 2) (⟨#[47, 47]⟩ : ByteArray)
          rw [Lib.toList_data (⟨#[47, 47]⟩ : ByteArray), bytes_extract, List.drop_zero, e47] at h9
          exact h9
        have c3 : (0 : Nat) ≤ 2 := by decide
        simp only [c1, c2, e, if_true, Bool.false_eq_true, if_false, c3]
        exact hg
      · have e : decide ((bytesOf a3).take 2 = [47, 47]) = false := by
          refine decide_eq_false fun x => ?_
          have := congrArg List.length x
          rw [List.length_take, bytesOf_length] at this
          simp at this; omega
        rw [e] at hg
        simp only [c1, Bool.false_eq_true, if_false]
        exact hg
    by_cases c1 : (bytesOf a3).take 2 = [47, 47]
    · refine ⟨(⟨#[47, 46]⟩ : ByteArray) ++ a3, ?_, href _ ?_⟩
      · simp only [Bool.false_eq_true, if_false, hp, Option.bind_some, c1, decide_true, if_true, l2]
      · refine Ev.step (f := fun k => some _) (fun k => ?_) (Ev.now _)
        simp only [monikerref20_Guard.j0, c1, decide_true, if_true, l2]
    · have fe := first_ev a3 (⟨#[47, 58]⟩ : ByteArray) (by omega) (by decide) 0 (Nat.zero_le _)
      rw [show bytesOf (⟨#[47, 58]⟩ : ByteArray) = [47, 58] from rfl, List.drop_zero] at fe
      have hin := hd_in [47, 58] a3 0 (Nat.zero_le _)
      have ht := tl_eq [47, 58] a3 0
      rw [List.drop_zero] at hin ht
      obtain ⟨j, hj⟩ : ∃ j, j = 0 + (hd [47, 58] (bytesOf a3)).length := ⟨_, rfl⟩
      rw [← hj] at fe hin ht
      have hcol := colon_eq a3 (by omega)
      have hprog : ∀ g, (if a0.toList = ([] : List UInt8) then ((tuple_colon.f a3).bind fun t151 => (if t151 ≥ 0 then (if 2 + a3.size ≤ 9223372036854775807 then (some (a0, false, a2, (⟨#[46, 47]⟩ : ByteArray) ++ a3, a4, a5, a6, a7)) else (none)) else (some (a0, false, a2, a3, a4, a5, a6, a7)))) else (some (a0, false, a2, a3, a4, a5, a6, a7))) = some (a0, false, a2, g, a4, a5, a6, a7) → (if false = true then (if a3.toList = ([] : List UInt8) then (some (a0, false, a2, a3, a4, a5, a6, a7)) else (if 0 < (a3.size : Int) then (if (bt a3 0) = 47 then (some (a0, false, a2, a3, a4, a5, a6, a7)) else (if 1 + a3.size ≤ 9223372036854775807 then (some (a0, false, a2, (⟨#[47]⟩ : ByteArray) ++ a3, a4, a5, a6, a7)) else (none))) else (none))) else ((strings_HasPrefix.f a3 (⟨#[47, 47]⟩ : ByteArray)).bind fun t150 => (if t150 = true then (if 2 + a3.size ≤ 9223372036854775807 then (some (a0, false, a2, (⟨#[47, 46]⟩ : ByteArray) ++ a3, a4, a5, a6, a7)) else (none)) else (if a0.toList = ([] : List UInt8) then ((tuple_colon.f a3).bind fun t151 => (if t151 ≥ 0 then (if 2 + a3.size ≤ 9223372036854775807 then (some (a0, false, a2, (⟨#[46, 47]⟩ : ByteArray) ++ a3, a4, a5, a6, a7)) else (none)) else (some (a0, false, a2, a3, a4, a5, a6, a7)))) else (some (a0, false, a2, a3, a4, a5, a6, a7)))))) = some (a0, false, a2, g, a4, a5, a6, a7) := by
        intro g hg
        rw [if_neg (by decide), hp]
        simp only [Option.bind_some, c1, decide_false, Bool.false_eq_true, if_false]
        exact hg
      have hj0 : ∀ g, Ev (fun k => (monikerref20_first.f k a3 0 (⟨#[47, 58]⟩ : ByteArray)).bind fun t154 => (if a0.toList = ([] : List UInt8) then (if t154 < (a3.size : Int) then (if 0 ≤ t154 then (if (bt a3 t154) = 58 then (if 2 + a3.size ≤ 9223372036854775807 then (some ((⟨#[46, 47]⟩ : ByteArray) ++ a3)) else (none)) else (some a3)) else (none)) else (some a3)) else (some a3))) g → Ev (fun k => monikerref20_Guard.j0 k a3 (decide ((bytesOf a3).take 2 = [47, 47])) a0 false a2 a3 a4 a5 a6 a7) g := by
        intro g hg
        refine Ev.step (fun k => ?_) hg
        simp only [monikerref20_Guard.j0, c1, decide_false, Bool.false_eq_true, if_false]
      by_cases c0 : a0.toList = ([] : List UInt8)
      · by_cases c2 : (tl [47, 58] (bytesOf a3)).head? = some 58
        · refine ⟨(⟨#[46, 47]⟩ : ByteArray) ++ a3, hprog _ ?_, href _ (hj0 _ (Ev.bind fe ?_))⟩
          · rw [if_pos c0, hcol, if_pos c2]
            simp only [Option.bind_some]
            rw [if_pos (by omega), if_pos l2]
          · have hjl : j < a3.size := by
              rcases Nat.lt_or_ge j a3.size with h1 | h1
              · exact h1
              · rw [← ht, drop_nil a3 j (by omega)] at c2; cases c2
            have k1 : (j : Int) < (a3.size : Int) := by omega
            have k2 : 0 ≤ (j : Int) := by omega
            have k3 : bt a3 (j : Int) = 58 := by rw [← ht] at c2; exact (head_bt a3 j hjl 58).1 c2
            simp only [c0, k1, k2, k3, l2, if_true]
            exact Ev.now _
        · refine ⟨a3, hprog _ ?_, href _ (hj0 _ (Ev.bind fe ?_))⟩
          · rw [if_pos c0, hcol, if_neg c2]
            simp only [Option.bind_some]
            rw [if_neg (by decide)]
          · by_cases hjl : j < a3.size
            · have k1 : (j : Int) < (a3.size : Int) := by omega
              have k2 : 0 ≤ (j : Int) := by omega
              have k3 : ¬ bt a3 (j : Int) = 58 := by
                intro x
                apply c2
                rw [← ht]
                exact (head_bt a3 j hjl 58).2 x
              simp only [c0, k1, k2, k3, if_true, if_false]
              exact Ev.now _
            · have k1 : ¬ (j : Int) < (a3.size : Int) := by omega
              simp only [c0, k1, if_true, if_false]
              exact Ev.now _
      · refine ⟨a3, hprog _ ?_, href _ (hj0 _ (Ev.bind fe ?_))⟩
        · rw [if_neg c0]
        · simp only [c0, if_false]
          exact Ev.now _
end Go.Proofs.Ytgccggbokphibaa.P20
