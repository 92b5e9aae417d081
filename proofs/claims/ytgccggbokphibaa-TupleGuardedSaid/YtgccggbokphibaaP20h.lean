/- Plain facts on tuple's program: what Clean, Guard and Fits answer. No condition but those that each names. -/
import Derived.Test.YtgccggbokphibaaP20bU
import Derived.Test.YtgccggbokphibaaPGuax6
namespace Go.Proofs.Ytgccggbokphibaa.P20
open Go.RowKit Go.Proofs.Ytgccggbokphibaa.PGua Go.Proofs.Ytgccggbokphibaa.By Go.Proofs.Ytgccggbokphibaa.Oct Go.Proofs.YtgccggbokphibaaW.PrintWords Go.Proofs.YtgccggbokphibaaW.PrintLast
set_option linter.unusedVariables false
set_option linter.unusedSimpArgs false
theorem hd_cons_in (set : List Int) (c : Int) (t : List Int) (h : c ∈ set) : hd set (c :: t) = [] := by unfold hd; rw [List.takeWhile_cons]; simp only [h, decide_true, Bool.not_true, Bool.false_eq_true, if_false]
theorem hd_cons_out (set : List Int) (c : Int) (t : List Int) (h : c ∉ set) : hd set (c :: t) = c :: hd set t := by unfold hd; rw [List.takeWhile_cons]; simp only [h, decide_false, Bool.not_false, if_true]
theorem head_bt (s : ByteArray) (i : Nat) (hi : i < s.size) (c : Int) : (((bytesOf s).drop i).head? = some c) ↔ bt s (i : Int) = c := by
  rw [drop_bytes s i hi]; simp
theorem drop_nil (s : ByteArray) (i : Nat) (hi : ¬ i < s.size) : (bytesOf s).drop i = [] := List.drop_eq_nil_of_le (by rw [bytesOf_length]; omega)
theorem nil_iff (s : ByteArray) : (s.toList = ([] : List UInt8)) ↔ bytesOf s = [] := by
  have := toList_nil (bytesOf s) (Byt.of s)
  rwa [S_B] at this
theorem free_tl (set l : List Int) : tl set l = [] ↔ Free set l := by
  constructor
  · intro h
    have e := hd_tl set l
    rw [h, List.append_nil] at e
    rw [← e]; exact hd_free set l
  · exact fun h => (hd_all set l h).2
theorem contains_eq (s set : ByteArray) (hs : s.size ≤ 100000) (hk : okSet set = true) : strings_ContainsAny.f s set = some (!decide (tl (bytesOf set) (bytesOf s) = [])) := by
  unfold strings_ContainsAny.f
  rw [index_eq s set hs hk]
  simp only [Option.bind_some]
  by_cases h : tl (bytesOf set) (bytesOf s) = []
  · rw [if_pos h, decide_eq_true h]; rfl
  · rw [if_neg h, decide_eq_false h, decide_eq_true (by omega)]; rfl
theorem one_eq (l : List UInt8) (c : UInt8) : Lib.indexByte l c = if tl [nn c] (l.map nn) = [] then -1 else ((hd [nn c] (l.map nn)).length : Int) := by
  rw [← Lib.indexAny_one]; exact ia_eq [c] l
theorem contains35 (s : ByteArray) : strings_Contains.f s (⟨#[35]⟩ : ByteArray) = some (!decide (tl SQ (bytesOf s) = [])) := by
  unfold strings_Contains.f
  rw [if_pos rfl, one_eq]
  have e : [nn 35] = SQ := rfl
  rw [e, ← bytes_nn]
  by_cases h : tl SQ (bytesOf s) = []
  · rw [if_pos h, decide_eq_true h]; rfl
  · rw [if_neg h, decide_eq_false h, decide_eq_true (by omega)]; rfl
theorem tl_cons_in (set : List Int) (c : Int) (t : List Int) (h : c ∈ set) : tl set (c :: t) = c :: t := by unfold tl; rw [List.dropWhile_cons]; simp only [h, decide_true, Bool.not_true, Bool.false_eq_true, if_false]
theorem tl_cons_out (set : List Int) (c : Int) (t : List Int) (h : c ∉ set) : tl set (c :: t) = tl set t := by unfold tl; rw [List.dropWhile_cons]; simp only [h, decide_false, Bool.not_false, if_true]
theorem colon_is : ∀ l : List Int, hd [58] (hd [47] l) = hd [47, 58] l ∧ (tl [58] (hd [47] l) ≠ [] ↔ (tl [47, 58] l).head? = some 58)
  | [] => ⟨rfl, by simp [hd, tl]⟩
  | c :: t => by
    have ih := colon_is t
    by_cases h1 : c = 47
    · subst h1
      rw [hd_cons_in [47] 47 t (by simp), hd_cons_in [47, 58] 47 t (by simp), tl_cons_in [47, 58] 47 t (by simp)]
      exact ⟨rfl, by simp [tl]⟩
    · rw [hd_cons_out [47] c t (by simp [h1])]
      by_cases h2 : c = 58
      · subst h2
        rw [hd_cons_in [58] 58 _ (by simp), hd_cons_in [47, 58] 58 t (by simp), tl_cons_in [47, 58] 58 t (by simp), tl_cons_in [58] 58 _ (by simp)]
        exact ⟨rfl, by simp⟩
      · rw [hd_cons_out [58] c _ (by simp [h2]), hd_cons_out [47, 58] c t (by simp [h1, h2]), tl_cons_out [47, 58] c t (by simp [h1, h2]), tl_cons_out [58] c _ (by simp [h2]), ih.1]
        exact ⟨rfl, ih.2⟩
theorem colon_eq (s : ByteArray) (hs : s.size ≤ 100000) : tuple_colon.f s = some (if (tl [47, 58] (bytesOf s)).head? = some 58 then ((hd [47, 58] (bytesOf s)).length : Int) else -1) := by
  unfold tuple_colon.f
  rw [upTo_eq s _ hs (by decide)]
  simp only [Option.bind_some, strings_IndexByte.f]
  have e47 : bytesOf (⟨#[47]⟩ : ByteArray) = [47] := rfl
  rw [e47, one_eq]
  have e : [nn (Int.toNat 58).toUInt8] = [58] := rfl
  rw [e, ← bytes_nn, B_S (Byt.of s).hd]
  have hc := colon_is (bytesOf s)
  rw [hc.1]
  by_cases h : tl [58] (hd [47] (bytesOf s)) = []
  · rw [if_pos h, if_neg (fun x => (hc.2.2 x) h)]
  · rw [if_neg h, if_pos (hc.2.1 h)]
def rootedB (sc : List Int) (ha : Bool) (pa : List Int) : Bool := if ha = true then decide (pa = [] ∨ pa.head? = some 47) else decide (pa.take 2 ≠ [47, 47] ∧ (sc ≠ [] ∨ ¬ (hd [47, 58] pa ≠ [] ∧ (tl [47, 58] pa).head? = some 58)))
theorem rootedB_iff (sc : List Int) (ha : Bool) (pa : List Int) : rootedB sc ha pa = true ↔ Rooted sc ha pa := by
  unfold rootedB Rooted
  cases ha with
  | true => simp only [if_true, decide_eq_true_iff]
  | false =>
    simp only [Bool.false_eq_true, if_false, decide_eq_true_iff]
    have : (hd [47] pa ≠ [] ∧ (hd [47, 58] pa ≠ [] ∧ (tl [47, 58] pa).head? = some 58)) ↔ (hd [47, 58] pa ≠ [] ∧ (tl [47, 58] pa).head? = some 58) := by
      constructor
      · exact fun x => x.2
      · intro x
        refine ⟨?_, x⟩
        intro h
        apply x.1
        rw [← (colon_is pa).1, h]; rfl
    rw [this]
theorem rooted_eq (a0 : ByteArray) (a1 : Bool) (a2 a3 : ByteArray) (a4 : Bool) (a5 : ByteArray) (a6 : Bool) (a7 : ByteArray) (h3 : a3.size ≤ 100000) : tuple_rooted.f a0 a1 a2 a3 a4 a5 a6 a7 = some (rootedB (bytesOf a0) a1 (bytesOf a3)) := by
  unfold tuple_rooted.f rootedB
  cases a1 with
  | true =>
    simp only [if_true]
    by_cases h : a3.toList = ([] : List UInt8)
    · have hb := (nil_iff a3).1 h
      rw [if_pos h, decide_eq_true (.inl hb)]
    · have hb : bytesOf a3 ≠ [] := fun x => h ((nil_iff a3).2 x)
      have hz : 0 < a3.size := by
        have := List.length_pos_iff.2 hb
        rw [bytesOf_length] at this; exact this
      rw [if_neg h, if_pos (by omega)]
      congr 1
      rw [Bool.eq_iff_iff, beq_iff_eq, decide_eq_true_iff]
      have := head_bt a3 0 hz 47
      rw [List.drop_zero] at this
      rw [show bt a3 0 = bt a3 ((0 : Nat) : Int) from rfl, ← this]
      exact ⟨fun x => .inr x, fun x => x.resolve_left hb⟩
  | false =>
    simp only [Bool.false_eq_true, if_false, has_eq, Option.bind_some]
    have e47 : bytesOf (⟨#[47, 47]⟩ : ByteArray) = [47, 47] := rfl
    have z47 : (⟨#[47, 47]⟩ : ByteArray).size = 2 := rfl
    rw [e47, z47]
    by_cases h : (bytesOf a3).take 2 = [47, 47]
    · rw [decide_eq_true h, if_pos rfl, decide_eq_false (fun x => x.1 h)]
    · rw [decide_eq_false h, if_neg (by decide)]
      by_cases h0 : a0.toList = ([] : List UInt8)
      · have hb := (nil_iff a0).1 h0
        rw [if_pos h0, colon_eq a3 h3]
        simp only [Option.bind_some]
        congr 1
        refine decide_eq_decide.2 ?_
        constructor
        · intro x
          refine ⟨h, .inr ?_⟩
          rintro ⟨y1, y2⟩
          rw [if_pos y2] at x
          have := List.length_pos_iff.2 y1
          omega
        · intro x
          have hx := x.2.resolve_left (fun y => y hb)
          by_cases y2 : (tl [47, 58] (bytesOf a3)).head? = some 58
          · rw [if_pos y2]
            have : ¬ hd [47, 58] (bytesOf a3) ≠ [] := fun y1 => hx ⟨y1, y2⟩
            have h9 : hd [47, 58] (bytesOf a3) = [] := Classical.not_not.1 this
            rw [h9]; decide
          · rw [if_neg y2]; decide
      · have hb : bytesOf a0 ≠ [] := fun x => h0 ((nil_iff a0).2 x)
        rw [if_neg h0, decide_eq_true ⟨h, .inl hb⟩]
theorem Clean_ev (a0 : ByteArray) (a1 : Bool) (a2 a3 : ByteArray) (a4 : Bool) (a5 : ByteArray) (a6 : Bool) (a7 : ByteArray) : Ev (fun k => tuple_Clean.f k a0 a1 a2 a3 a4 a5 a6 a7) (a0, a1, (if a1 = true then a2 else (⟨#[]⟩ : ByteArray)), a3, a4, (if a4 = true then a5 else (⟨#[]⟩ : ByteArray)), a6, (if a6 = true then a7 else (⟨#[]⟩ : ByteArray))) := by
  unfold tuple_Clean.f
  cases a1 <;> cases a4 <;> cases a6 <;> exact Ev.step (f := fun k => some _) (fun k => rfl) (Ev.now _)
def fitsB (sc : List Int) (ha : Bool) (au pa : List Int) (hq : Bool) (qu : List Int) (hf : Bool) (fr : List Int) : Bool :=
  (ha || decide (au = [])) && ((hq || decide (qu = [])) && ((hf || decide (fr = [])) && (decide (tl SS sc = []) && (decide (tl SA au = []) && (decide (tl SP pa = []) && (decide (tl SQ qu = []) && rootedB sc ha pa))))))
theorem fitsB_iff (sc : List Int) (ha : Bool) (au pa : List Int) (hq : Bool) (qu : List Int) (hf : Bool) (fr : List Int) : fitsB sc ha au pa hq qu hf fr = true ↔ Fits sc ha au pa hq qu hf fr := by
  unfold fitsB Fits
  simp only [Bool.and_eq_true, decide_eq_true_iff, free_tl, rootedB_iff, Bool.or_eq_true]
  cases ha <;> cases hq <;> cases hf <;> simp
theorem eq_self_list (a : ByteArray) : (a.toList == a.toList) = true := beq_self_eq_true _
theorem clean_cond (h : Bool) (a : ByteArray) : (a.toList == (if h = true then a else (⟨#[]⟩ : ByteArray)).toList) = (h || decide (bytesOf a = [])) := by
  cases h with
  | true => simp
  | false =>
    simp only [Bool.false_eq_true, if_false, Bool.false_or]
    rw [toList_beq]; rfl
theorem Fits_ev (a0 : ByteArray) (a1 : Bool) (a2 a3 : ByteArray) (a4 : Bool) (a5 : ByteArray) (a6 : Bool) (a7 : ByteArray) (h0 : a0.size ≤ 100000) (h2 : a2.size ≤ 100000) (h3 : a3.size ≤ 100000) (h5 : a5.size ≤ 100000) (h7 : a7.size ≤ 100000) :
    Ev (fun k => tuple_Fits.f k a0 a1 a2 a3 a4 a5 a6 a7) (fitsB (bytesOf a0) a1 (bytesOf a2) (bytesOf a3) a4 (bytesOf a5) a6 (bytesOf a7)) := by
  unfold tuple_Fits.f
  refine Ev.bind (Clean_ev a0 a1 a2 a3 a4 a5 a6 a7) ?_
  simp only [clean_cond, beq_self_eq_true, Bool.true_and, contains_eq _ _ h0 (show okSet (⟨#[58, 47, 63, 35]⟩ : ByteArray) = true by decide), contains_eq _ _ h2 (show okSet (⟨#[47, 63, 35]⟩ : ByteArray) = true by decide), contains_eq _ _ h3 (show okSet (⟨#[63, 35]⟩ : ByteArray) = true by decide), contains35, rooted_eq a0 a1 a2 a3 a4 a5 a6 a7 h3, Option.bind_some]
  have eS : bytesOf (⟨#[58, 47, 63, 35]⟩ : ByteArray) = SS := rfl
  have eA : bytesOf (⟨#[47, 63, 35]⟩ : ByteArray) = SA := rfl
  have eP : bytesOf (⟨#[63, 35]⟩ : ByteArray) = SP := rfl
  rw [eS, eA, eP]
  unfold fitsB
  generalize (a1 || decide (bytesOf a2 = [])) = b1
  generalize (a4 || decide (bytesOf a5 = [])) = b2
  generalize (a6 || decide (bytesOf a7 = [])) = b3
  generalize decide (tl SS (bytesOf a0) = []) = b4
  generalize decide (tl SA (bytesOf a2) = []) = b5
  generalize decide (tl SP (bytesOf a3) = []) = b6
  generalize decide (tl SQ (bytesOf a5) = []) = b7
  cases b1 <;> cases b2 <;> cases b3 <;> cases b4 <;> cases b5 <;> cases b6 <;> cases b7 <;> exact Ev.now _
theorem app_bytes (a b : ByteArray) : bytesOf (a ++ b) = bytesOf a ++ bytesOf b := by
  unfold bytesOf; simp
theorem free_cons {set : List Int} {c : Int} {l : List Int} (h : c ∉ set) (hl : Free set l) : Free set (c :: l) := by
  intro x hx
  rcases List.mem_cons.1 hx with rfl | h1
  · exact h
  · exact hl x h1
theorem guard_fits (a0 : ByteArray) (a1 : Bool) (a2 a3 : ByteArray) (a4 : Bool) (a5 : ByteArray) (a6 : Bool) (a7 : ByteArray) (h3 : a3.size ≤ 1000)
    (q1 : a1 = false → bytesOf a2 = []) (q2 : a4 = false → bytesOf a5 = []) (q3 : a6 = false → bytesOf a7 = []) (f0 : Free SS (bytesOf a0)) (f2 : Free SA (bytesOf a2)) (f3 : Free SP (bytesOf a3)) (f5 : Free SQ (bytesOf a5)) :
    ∃ g, tuple_Guard.f a0 a1 a2 a3 a4 a5 a6 a7 = some (a0, a1, a2, g, a4, a5, a6, a7) ∧ Fits (bytesOf a0) a1 (bytesOf a2) (bytesOf g) a4 (bytesOf a5) a6 (bytesOf a7) ∧ g.size ≤ a3.size + 2 := by
  have l1 : 1 + a3.size ≤ 9223372036854775807 := by omega
  have l2 : 2 + a3.size ≤ 9223372036854775807 := by omega
  suffices h : ∃ g, tuple_Guard.f a0 a1 a2 a3 a4 a5 a6 a7 = some (a0, a1, a2, g, a4, a5, a6, a7) ∧ (Free SP (bytesOf g) ∧ Rooted (bytesOf a0) a1 (bytesOf g)) ∧ g.size ≤ a3.size + 2 by
    obtain ⟨g, e, ⟨e1, e2⟩, e3⟩ := h
    exact ⟨g, e, ⟨q1, q2, q3, f0, f2, e1, f5, e2⟩, e3⟩
  have n47 : (47 : Int) ∉ SP := by simp [SP]
  have n46 : (46 : Int) ∉ SP := by simp [SP]
  unfold tuple_Guard.f Rooted
  cases a1 with
  | true =>
    simp only [if_true]
    by_cases c1 : a3.toList = ([] : List UInt8)
    · exact ⟨a3, by rw [if_pos c1], ⟨f3, .inl ((nil_iff a3).1 c1)⟩, by omega⟩
    · have hb : bytesOf a3 ≠ [] := fun x => c1 ((nil_iff a3).2 x)
      have hz : 0 < a3.size := by
        have := List.length_pos_iff.2 hb
        rw [bytesOf_length] at this; omega
      have hz1 : 0 < (a3.size : Int) := by omega
      by_cases c2 : bt a3 0 = 47
      · refine ⟨a3, by rw [if_neg c1, if_pos hz1, if_pos c2], ⟨f3, .inr ?_⟩, by omega⟩
        have := (head_bt a3 0 hz 47).2 c2
        rwa [List.drop_zero] at this
      · refine ⟨(⟨#[47]⟩ : ByteArray) ++ a3, by rw [if_neg c1, if_pos hz1, if_neg c2, if_pos l1], ⟨?_, .inr ?_⟩, ?_⟩
        · rw [app_bytes]; exact free_cons n47 f3
        · rw [app_bytes]; rfl
        · rw [ByteArray.size_append]; show 1 + a3.size ≤ _; omega
  | false =>
    have e47 : bytesOf (⟨#[47, 47]⟩ : ByteArray) = [47, 47] := rfl
    have z47 : (⟨#[47, 47]⟩ : ByteArray).size = 2 := rfl
    have hp := has_eq a3 (⟨#[47, 47]⟩ : ByteArray)
    rw [e47, z47] at hp
    simp only [Bool.false_eq_true, if_false, hp, Option.bind_some]
    by_cases c1 : (bytesOf a3).take 2 = [47, 47]
    · refine ⟨(⟨#[47, 46]⟩ : ByteArray) ++ a3, by simp only [c1, decide_true, if_true, l2], ⟨?_, ?_, .inr ?_⟩, ?_⟩
      · rw [app_bytes]; exact free_cons n47 (free_cons n46 f3)
      · rw [app_bytes]; show ¬ ([47, 46] : List Int) = [47, 47]; decide
      · rw [app_bytes]
        intro x
        exact x.1 (hd_cons_in [47] 47 _ (by simp))
      · rw [ByteArray.size_append]; show 2 + a3.size ≤ _; omega
    · simp only [c1, decide_false, Bool.false_eq_true, if_false]
      by_cases c0 : a0.toList = ([] : List UInt8)
      · rw [if_pos c0, colon_eq a3 (by omega)]
        by_cases c2 : (tl [47, 58] (bytesOf a3)).head? = some 58
        · refine ⟨(⟨#[46, 47]⟩ : ByteArray) ++ a3, ?_, ⟨?_, ?_, .inr ?_⟩, ?_⟩
          · rw [if_pos c2]
            simp only [Option.bind_some]
            rw [if_pos (by omega), if_pos l2]
          · rw [app_bytes]; exact free_cons n46 (free_cons n47 f3)
          · rw [app_bytes]; show ¬ ([46, 47] : List Int) = [47, 47]; decide
          · rw [app_bytes]
            intro x
            have := x.2.2
            have e : tl [47, 58] (bytesOf (⟨#[46, 47]⟩ : ByteArray) ++ bytesOf a3) = 47 :: bytesOf a3 := by
              show tl [47, 58] (46 :: 47 :: bytesOf a3) = _
              rw [tl_cons_out _ _ _ (by simp), tl_cons_in _ _ _ (by simp)]
            rw [e] at this
            simp at this
          · rw [ByteArray.size_append]; show 2 + a3.size ≤ _; omega
        · refine ⟨a3, ?_, ⟨f3, c1, .inr fun x => c2 x.2.2⟩, by omega⟩
          rw [if_neg c2]
          simp only [Option.bind_some]
          rw [if_neg (by decide)]
      · refine ⟨a3, by rw [if_neg c0], ⟨f3, c1, .inl fun x => c0 ((nil_iff a0).2 x)⟩, by omega⟩
end Go.Proofs.Ytgccggbokphibaa.P20
