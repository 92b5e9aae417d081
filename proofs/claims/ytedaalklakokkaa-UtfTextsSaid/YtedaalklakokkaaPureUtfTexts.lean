import Derived.Test.YtedaalklakokkaaPAllx8
import Derived.Test.YtedaalklakokkaaP02f
namespace Go.Proofs.Ytedaalklakokkaa.Pure
open Go.RowKit Go.Proofs.Ytedaalklakokkaa.PAll Go.Proofs.Ytedaalklakokkaa.By Go.Proofs.Ytedaalklakokkaa.P02 Go.Proofs.YtedaalklakokkaaW.PrintWords Go.Proofs.YtedaalklakokkaaW.PrintLast

/-- Behind the row's last: all are scalar values. -/
theorem texts_yes (l : List Int) (hl : l.length ≤ 100) (hw : ∀ r ∈ l, wrap64 r = r) (h : ∀ r ∈ l, scaB r = true) (t : ByteArray) (ht : t = strOfNums (cat l)) : ∀ i, i ≤ l.length → Ev (fun k => monikerlaw02_UtfTexts.l0 k l t true l (l.length : Int) (i : Int)) true := by
  have hb : bytesOf t = cat l := by rw [ht]; exact bytes_str _ (cat_byt l h)
  have hs : t.size ≤ 2000 := by
    have := cat_len l
    rw [← hb, bytesOf_length] at this
    omega
  have hv := cat_vals l h
  rw [← hb] at hv
  have hr := uruns t hs
  rw [if_pos hv.2, hv.1] at hr
  apply rounds_down
  · refine Ev.step (f := fun k => ((monikerlaw02_ints.f k l).bind fun t239 => ((monikerref02_Text.f k t239).bind fun t242 => (if t.toList = t242.toList then ((monikerlaw02_ints.f k l).bind fun t243 => ((monikerlaw02_ints.f k l).bind fun t246 => ((monikerref02_Same.f k t243 t246).bind fun t249 => (if t249 = true then ((monikerlaw02_awake.f k).bind fun t250 => (some t250)) else (some false))))) else (some false))))) (fun k => ?_) ?_
    · simp only [monikerlaw02_UtfTexts.l0, hr, Option.bind_some, if_true]
      rw [if_neg (by omega)]
    · refine Ev.bind (ints l (by omega) hw) ?_
      refine Ev.bind (rtext l (by omega) h) ?_
      rw [← ht]
      simp only [if_true]
      refine Ev.bind (ints l (by omega) hw) ?_
      refine Ev.bind (ints l (by omega) hw) ?_
      refine Ev.bind (same l (by omega)) ?_
      simp only [if_true]
      exact Ev.bind awake_ev (Ev.now _)
  · intro i hi ih
    refine Ev.step (fun k => ?_) ih
    simp only [monikerlaw02_UtfTexts.l0, hw _ (rd_mem l i hi), refscalar, h _ (rd_mem l i hi), Option.bind_some, if_true]
    rw [if_pos (by omega), if_pos (by omega), if_pos (by omega), show wrap64 ((i : Int) + 1) = ((i + 1 : Nat) : Int) by unfold wrap64; omega]
theorem texts_no (l : List Int) (hl : l.length ≤ 100) (hw : ∀ r ∈ l, wrap64 r = r) : ∀ i, i ≤ l.length → (∃ r ∈ l.drop i, scaB r = false) → Ev (fun k => monikerlaw02_UtfTexts.l0 k l ⟨#[]⟩ false l (l.length : Int) (i : Int)) true := by
  apply rounds_down
  · rintro ⟨r, hr, _⟩; rw [List.drop_length] at hr; cases hr
  · intro i hi ih hex
    cases hsc : scaB (rd l (i : Int)) with
    | true =>
      have hex2 : ∃ r ∈ l.drop (i + 1), scaB r = false := by
        obtain ⟨r, hr, h2⟩ := hex
        rw [rd_drop l i hi] at hr
        rcases List.mem_cons.1 hr with rfl | hr
        · rw [hsc] at h2; cases h2
        · exact ⟨r, hr, h2⟩
      refine Ev.step (fun k => ?_) (ih hex2)
      simp only [monikerlaw02_UtfTexts.l0, hw _ (rd_mem l i hi), refscalar, hsc, Option.bind_some, if_true]
      rw [if_pos (by omega), if_pos (by omega), if_pos (by omega), show wrap64 ((i : Int) + 1) = ((i + 1 : Nat) : Int) by unfold wrap64; omega]
    | false =>
      have en : (⟨#[]⟩ : ByteArray).toList = ([] : List UInt8) := by rw [Lib.toList_data]
      refine Ev.step (f := fun k => (monikerlaw02_awake.f k).bind fun t => some t) (fun k => ?_) (Ev.bind awake_ev (Ev.now _))
      simp only [monikerlaw02_UtfTexts.l0, hw _ (rd_mem l i hi), refscalar, hsc, Option.bind_some, Bool.false_eq_true, if_false, en, if_true]
      rw [if_pos (by omega), if_pos (by omega), if_pos (by omega)]
theorem texts_row (l : List Int) (hl : l.length ≤ 100) (hw : ∀ r ∈ l, wrap64 r = r) : Ev (fun k => monikerlaw02_UtfTexts.j1 k l) true := by
  refine Ev.step (f := fun k => (utf_Text.f k l).bind fun bt230 => (monikerlaw02_UtfTexts.l0 k l bt230.1 bt230.2 l (l.length : Int) 0)) (fun k => by simp only [monikerlaw02_UtfTexts.j1]) ?_
  by_cases h : ∀ r ∈ l, scaB r = true
  · refine Ev.bind (utext l (by omega) h) ?_
    exact texts_yes l hl hw h _ rfl 0 (by omega)
  · have h' : ∃ r ∈ l, scaB r = false := by
      apply Classical.byContradiction
      intro hn
      apply h
      intro r hr
      cases e : scaB r with
      | true => rfl
      | false => exact absurd ⟨r, hr, e⟩ hn
    refine Ev.bind (utext_no l (by omega) h') ?_
    exact texts_no l hl hw 0 (by omega) (by rwa [List.drop_zero])
theorem texts_mid (s : ByteArray) (l : List Int) (hs : s.size ≤ 300) (hl : l.length ≤ 100) (hw : ∀ r ∈ l, wrap64 r = r) : Ev (fun k => monikerlaw02_UtfTexts.j0 k s l false) true := by
  have hr := uruns s (by omega)
  have hf := rfault s (by omega)
  by_cases h : flt (bytesOf s) < 0
  · rw [if_pos h] at hr
    have hv := vals_cat _ (byt_of s) h
    have hn : (vals (pc (bytesOf s))).length ≤ 2000 := by
      have := vals_len _ (byt_of s)
      rw [bytesOf_length] at this; omega
    have hw2 : ∀ r ∈ vals (pc (bytesOf s)), wrap64 r = r := by
      intro r hr
      have := vals_rng _ (byt_of s) r hr
      exact w64 (by omega) (by omega)
    have ht := utext _ hn hv.2
    rw [hv.1, str_bytes] at ht
    refine Ev.step (f := fun k => (monikerref02_Fault.f k s).bind fun t220 => (if t220 ≥ 0 then (some false) else ((utf_Text.f k (vals (pc (bytesOf s)))).bind fun bt221 => (if bt221.2 = true then (if bt221.1.toList = s.toList then ((monikerlaw02_ints.f k (vals (pc (bytesOf s)))).bind fun t223 => ((monikerref02_Runes.f k s).bind fun t226 => ((monikerref02_Same.f k t223 t226).bind fun t229 => (if t229 = true then (monikerlaw02_UtfTexts.j1 k l) else (some false))))) else (some false)) else (some false))))) (fun k => ?_) ?_
    · simp only [monikerlaw02_UtfTexts.j0, hr, Option.bind_some, Bool.false_eq_true, if_false, if_true]
    · refine Ev.bind hf ?_
      simp only [show ¬ flt (bytesOf s) ≥ 0 by omega, if_false]
      refine Ev.bind ht ?_
      simp only [if_true]
      refine Ev.bind (ints _ hn hw2) ?_
      refine Ev.bind (rruns s (by omega)) ?_
      refine Ev.bind (same _ hn) ?_
      simp only [if_true]
      exact texts_row l hl hw
  · rw [if_neg h] at hr
    refine Ev.step (f := fun k => (monikerref02_Fault.f k s).bind fun t220 => (if t220 ≥ 0 then (monikerlaw02_UtfTexts.j1 k l) else ((utf_Text.f k []).bind fun bt221 => some false))) (fun k => ?_) ?_
    · simp only [monikerlaw02_UtfTexts.j0, hr, Option.bind_some, Bool.false_eq_true, if_false, List.length_nil, Int.ofNat_zero, if_true]
    · refine Ev.bind hf ?_
      simp only [show flt (bytesOf s) ≥ 0 by omega, if_true]
      exact texts_row l hl hw
theorem UtfTexts : monikerlaw02_UtfTexts.Pure := by
  intro s l hs hl hl2 hwf
  refine Ev.rounds ?_
  have hw : ∀ r ∈ l, wrap64 r = r := by
    intro r hr
    have := hwf r hr
    simp [Lit.wf, IntKind.min, IntKind.max, IntKind.signed, IntKind.bits] at this
    unfold wrap64; omega
  unfold monikerlaw02_UtfTexts.f
  have yes : Ev (fun k => monikerlaw02_UtfTexts.j0 k s l true) true :=
    Ev.step (f := fun k => (monikerlaw02_awake.f k).bind fun t => some t) (fun k => by simp only [monikerlaw02_UtfTexts.j0, if_true]) (Ev.bind awake_ev (Ev.now _))
  by_cases c : (s.size : Int) > 300
  · simp only [c, if_true]; exact yes
  · simp only [c, if_false]
    by_cases d : (l.length : Int) > 100
    · rw [decide_eq_true d]; exact yes
    · rw [decide_eq_false d]; exact texts_mid s l (by omega) (by omega) hw

end Go.Proofs.Ytedaalklakokkaa.Pure
