/- Plain facts on the printed functions of chapter 18: places, code points, schemes. No condition but those that each names. -/
import Derived.Test.YtcfoggglbcmhpaaFind
import Derived.Test.YtcfoggglbcmhpaaPAllx8
namespace Go.Proofs.Ytcfoggglbcmhpaa.P18
open Go.RowKit Go.Proofs.Ytcfoggglbcmhpaa.PAll Go.Proofs.Ytcfoggglbcmhpaa.Oct Go.Proofs.Ytcfoggglbcmhpaa.By Go.Proofs.Ytcfoggglbcmhpaa.Find Go.Proofs.YtcfoggglbcmhpaaW.PrintWords Go.Proofs.YtcfoggglbcmhpaaW.PrintLast
set_option linter.unusedVariables false

theorem awake_ev : Ev (fun k => monikerlaw18_awake.f k) true := by
  refine Ev.of (fun k => monikerlaw18_awake.mono k) (k := 24) ?_
  decide +kernel
def okP (p : Int) : Bool := decide (1 ≤ p ∧ p ≤ 7)
theorem extra_eq (p : Int) : lexis_extra.f p = some (lst18 p, okP p) := by
  by_cases h : 1 ≤ p ∧ p ≤ 7
  · have : p = 1 ∨ p = 2 ∨ p = 3 ∨ p = 4 ∨ p = 5 ∨ p = 6 ∨ p = 7 := by omega
    rcases this with rfl | rfl | rfl | rfl | rfl | rfl | rfl <;> rfl
  · unfold lexis_extra.f lst18 okP
    rw [decide_eq_false h, if_neg (by omega), if_neg (by omega), if_neg (by omega), if_neg (by omega), if_neg (by omega), if_neg (by omega), if_neg (by omega)]
    rw [if_neg (by omega), if_neg (by omega), if_neg (by omega), if_neg (by omega), if_neg (by omega), if_neg (by omega)]
/-- May a byte stand at a place? -/
def plain (p b : Int) : Bool := okP p && ((Go.bits .and .i64 (cls b) 15 != 0) || decide (b ∈ bytesOf (lst18 p)))
theorem lst_size (p : Int) : (lst18 p).size ≤ 4 := by
  unfold lst18
  repeat' split
  all_goals decide
theorem Plain_ev (p b : Int) (hb : 0 ≤ b ∧ b ≤ 255) : Ev (fun k => lexis_Plain.f k p b) (plain p b) := by
  unfold lexis_Plain.f plain
  simp only [extra_eq, Option.bind_some]
  cases hp : okP p with
  | false => simp only [Bool.false_eq_true, if_false, Bool.false_and]; exact Ev.now _
  | true =>
    simp only [if_true, Bool.true_and]
    refine Ev.bind (Is_ev b 15 hb) ?_
    cases hc : (Go.bits .and .i64 (cls b) 15 != 0) with
    | true => simp only [if_true, Bool.true_or]; exact Ev.now _
    | false =>
      simp only [Bool.false_eq_true, if_false, Bool.false_or]
      have hs : (strOfNums [b]).size = 1 := str_size _
      have hsz := lst_size p
      refine Ev.bind (Find_ev (lst18 p) (strOfNums [b]) 0 (by omega) (by omega)) ?_
      have e : bytesOf (strOfNums [b]) = [b] := bytes_str _ (by intro x hx; simp at hx; subst hx; exact hb)
      rw [e, Int.toNat_zero, List.drop_zero]
      have h := fst_mem [b] (bytesOf (lst18 p)) 0 (by omega)
      have e2 : (fst [b] (bytesOf (lst18 p)) ((0 : Nat) : Int) ≥ 0) ↔ b ∈ bytesOf (lst18 p) := by
        rw [Int.ofNat_zero, h]; simp
      rw [decide_eq_decide.2 e2]
      exact Ev.now _
theorem refPlain_ev (p b : Int) : Ev (fun k => monikerref18_Plain.f k p b) (plain p b) := by
  unfold monikerref18_Plain.f plain okP
  by_cases h1 : p < 1
  · simp only [h1, if_true]; rw [decide_eq_false (by omega), Bool.false_and]; exact Ev.now _
  by_cases h2 : 7 < p
  · simp only [h1, h2, if_true, if_false]; rw [decide_eq_false (by omega), Bool.false_and]; exact Ev.now _
  simp only [h1, h2, if_false]
  rw [decide_eq_true (by omega), Bool.true_and]
  refine Ev.bind (refClass_ev b) ?_
  have hsz := lst_size p
  by_cases hc : Go.bits .and .i64 (cls b) 15 = 0
  · simp only [hc, if_true, bne_self_eq_false, Bool.false_or]
    exact Ev.bind (In_ev b (lst18 p) (by omega)) (Ev.now _)
  · simp only [hc, if_false]
    rw [bne_iff_ne.2 hc, Bool.true_or]; exact Ev.now _

/-! code points -/
def common (r : Int) : Bool := decide ((160 ≤ r ∧ r ≤ 55295) ∨ (63744 ≤ r ∧ r ≤ 64975) ∨ (65008 ≤ r ∧ r ≤ 65519) ∨ (65536 ≤ r ∧ r ≤ 983037 ∧ r % 65536 ≤ 65533 ∧ (r < 917504 ∨ 921600 ≤ r)))
def priv (r : Int) : Bool := decide ((57344 ≤ r ∧ r ≤ 63743) ∨ (983040 ≤ r ∧ r ≤ 1048573) ∨ (1048576 ≤ r ∧ r ≤ 1114109))
theorem Private_eq (r : Int) : lexis_Private.f r = some (priv r) := by
  unfold lexis_Private.f priv
  repeat' split
  all_goals (congr 1; first | (symm; apply decide_eq_true; omega) | (symm; apply decide_eq_false; omega) | (rw [decide_eq_decide]; omega))
theorem refPrivate_eq (r : Int) : monikerref18_Private.f r = some (priv r) := Private_eq r
theorem i32_mask16 (x : Int) (h0 : 0 ≤ x) (h1 : x < 2147483648) : Go.bits .and .i32 x 65535 = x % 65536 :=
  bits_mask .i32 31 (by decide) (fun n a b => wraps_i32 n a (by omega)) 16 (by decide) x h0 (by omega)
theorem Common_j0 (r : Int) (x : Bool) (h0 : r < 2147483648) : Ev (fun k => lexis_Common.j0 k r x) (if x = true then true else decide (65536 ≤ r ∧ r ≤ 983037 ∧ r % 65536 ≤ 65533 ∧ (r < 917504 ∨ 921600 ≤ r))) := by
  cases x with
  | true => exact Ev.step (f := fun _ => some true) (fun k => by simp only [lexis_Common.j0, if_true]) (Ev.now _)
  | false =>
    simp only [Bool.false_eq_true, if_false]
    refine Ev.step (f := fun _ => some (decide (65536 ≤ r ∧ r ≤ 983037 ∧ r % 65536 ≤ 65533 ∧ (r < 917504 ∨ 921600 ≤ r)))) (fun k => ?_) (Ev.now _)
    simp only [lexis_Common.j0, Bool.false_eq_true, if_false]
    by_cases a : r < 65536
    · rw [if_pos a, decide_eq_false (by omega)]
    rw [if_neg a]
    by_cases b : r > 983037
    · rw [if_pos b, decide_eq_false (by omega)]
    rw [if_neg b, i32_mask16 r (by omega) h0]
    by_cases c : r % 65536 ≤ 65533
    · rw [if_pos c]
      by_cases d : r < 917504
      · rw [if_pos d, decide_eq_true (by omega)]
      · rw [if_neg d]; congr 1; rw [decide_eq_decide]; omega
    · rw [if_neg c, decide_eq_false (by omega)]
theorem Common_ev (r : Int) (h0 : r < 2147483648) : Ev (fun k => lexis_Common.f k r) (common r) := by
  have yes := Common_j0 r true h0
  have no := Common_j0 r false h0
  simp only [Bool.false_eq_true, if_true, if_false] at yes no
  unfold lexis_Common.f
  by_cases a : r < 160
  · simp only [a, if_true]; rw [show common r = false by unfold common; exact decide_eq_false (by omega)]; exact Ev.now _
  simp only [a, if_false]
  by_cases b : r ≤ 55295
  · simp only [b, if_true, decide_true]; rw [show common r = true by unfold common; exact decide_eq_true (by omega)]; exact yes
  simp only [b, if_false]
  by_cases c : r ≥ 63744
  · simp only [c, if_true]
    by_cases d : r ≤ 64975
    · simp only [d, if_true, decide_true]; rw [show common r = true by unfold common; exact decide_eq_true (by omega)]; exact yes
    simp only [d, if_false]
    by_cases e : r ≥ 65008
    · simp only [e, if_true]
      by_cases g : r ≤ 65519
      · simp only [g, decide_true]; rw [show common r = true by unfold common; exact decide_eq_true (by omega)]; exact yes
      · simp only [g, decide_false]; rw [show common r = decide (65536 ≤ r ∧ r ≤ 983037 ∧ r % 65536 ≤ 65533 ∧ (r < 917504 ∨ 921600 ≤ r)) by unfold common; rw [decide_eq_decide]; omega]; exact no
    · simp only [e, if_false]; rw [show common r = decide (65536 ≤ r ∧ r ≤ 983037 ∧ r % 65536 ≤ 65533 ∧ (r < 917504 ∨ 921600 ≤ r)) by unfold common; rw [decide_eq_decide]; omega]; exact no
  · simp only [c, show ¬ r ≥ 65008 by omega, if_false]; rw [show common r = decide (65536 ≤ r ∧ r ≤ 983037 ∧ r % 65536 ≤ 65533 ∧ (r < 917504 ∨ 921600 ≤ r)) by unfold common; rw [decide_eq_decide]; omega]; exact no
def tail (r : Int) (p : Nat) : Bool := decide (((p : Int) * 65536 ≤ r ∧ r < 917504 ∧ r % 65536 ≤ 65533) ∨ (921600 ≤ r ∧ r ≤ 983037))
theorem refCommon_l0 (r : Int) : ∀ p : Nat, p ≤ 14 → Ev (fun k => monikerref18_Common.l0 k r (p : Int)) (tail r p) := by
  apply from_end
  · refine Ev.step (f := fun _ => some (tail r 14)) (fun k => ?_) (Ev.now _)
    simp only [monikerref18_Common.l0]
    rw [if_neg (by omega)]
    unfold tail
    by_cases a : r ≥ 921600
    · rw [if_pos a]; congr 1; rw [decide_eq_decide]; omega
    · rw [if_neg a, decide_eq_false (by omega)]
  · intro p hp ih
    have w1 : wrap64 ((p : Int) * 65536) = (p : Int) * 65536 := w64 (by omega) (by omega)
    have w2 : wrap64 ((p : Int) * 65536 + 65533) = (p : Int) * 65536 + 65533 := w64 (by omega) (by omega)
    have w3 : wrap64 ((p : Int) + 1) = ((p + 1 : Nat) : Int) := by unfold wrap64; omega
    by_cases a : r ≥ (p : Int) * 65536 ∧ r ≤ (p : Int) * 65536 + 65533
    · refine Ev.step (f := fun _ => some true) (fun k => ?_) ?_
      · simp only [monikerref18_Common.l0, w1, w2]
        rw [if_pos (by omega), if_pos a.1, if_pos a.2]
      · unfold tail; rw [decide_eq_true (by omega)]; exact Ev.now _
    · have e : tail r p = tail r (p + 1) := by unfold tail; rw [decide_eq_decide]; omega
      rw [e]
      refine Ev.step (fun k => ?_) ih
      simp only [monikerref18_Common.l0, w1, w2, w3]
      rw [if_pos (by omega)]
      by_cases b : r ≥ (p : Int) * 65536
      · rw [if_pos b, if_neg (by omega)]
      · rw [if_neg b]
theorem refCommon_j0 (r : Int) (x : Bool) : Ev (fun k => monikerref18_Common.j0 k r x) (if x = true then true else tail r 1) := by
  cases x with
  | true => exact Ev.step (f := fun _ => some true) (fun k => by simp only [monikerref18_Common.j0, if_true]) (Ev.now _)
  | false => exact Ev.step (fun k => by simp only [monikerref18_Common.j0, Bool.false_eq_true, if_false]; rfl) (refCommon_l0 r 1 (by omega))
theorem refCommon_ev (r : Int) : Ev (fun k => monikerref18_Common.f k r) (common r) := by
  have yes := refCommon_j0 r true
  have no := refCommon_j0 r false
  simp only [Bool.false_eq_true, if_true, if_false] at yes no
  unfold monikerref18_Common.f
  by_cases a : r ≥ 160 ∧ r ≤ 55295
  · simp only [a.1, a.2, if_true]; rw [show common r = true by unfold common; exact decide_eq_true (by omega)]; exact yes
  by_cases c : r ≥ 63744
  · have a2 : ¬ r ≤ 55295 := by omega
    simp only [c, a2, show r ≥ 160 by omega, if_true, if_false]
    by_cases d : r ≤ 64975
    · simp only [d, if_true]; rw [show common r = true by unfold common; exact decide_eq_true (by omega)]; exact yes
    simp only [d, if_false]
    by_cases e : r ≥ 65008
    · simp only [e, if_true]
      by_cases g : r ≤ 65519
      · simp only [g, decide_true]; rw [show common r = true by unfold common; exact decide_eq_true (by omega)]; exact yes
      · simp only [g, decide_false]; rw [show common r = tail r 1 by unfold common tail; rw [decide_eq_decide]; omega]; exact no
    · simp only [e, if_false]; rw [show common r = tail r 1 by unfold common tail; rw [decide_eq_decide]; omega]; exact no
  · have h65 : ¬ r ≥ 65008 := by omega
    by_cases b : r ≥ 160
    · simp only [b, c, h65, show ¬ r ≤ 55295 by omega, if_true, if_false]; rw [show common r = tail r 1 by unfold common tail; rw [decide_eq_decide]; omega]; exact no
    · simp only [b, c, h65, if_false]; rw [show common r = tail r 1 by unfold common tail; rw [decide_eq_decide]; omega]; exact no
/-- May a code point stand at a place? -/
def may (p : Int) (i : Bool) (r : Int) : Bool := if 0 ≤ r ∧ r < 128 then plain p r else (okP p && i) && (common r || (decide (p = 6) && priv r))
theorem May_ev (p : Int) (i : Bool) (r : Int) (h0 : r < 2147483648) : Ev (fun k => lexis_May.f k p i r) (may p i r) := by
  have j1 : Ev (fun k => lexis_May.j1 k p r false) (common r || (decide (p = 6) && priv r)) := by
    refine Ev.step (f := fun k => (lexis_Common.f k r).bind fun t124 => (if t124 = true then (some true) else (if p = 6 then ((lexis_Private.f r).bind fun t125 => (some t125)) else (some false)))) (fun k => by simp only [lexis_May.j1, Bool.false_eq_true, if_false]) ?_
    refine Ev.bind (Common_ev r h0) ?_
    cases common r with
    | true => simp only [if_true, Bool.true_or]; exact Ev.now _
    | false =>
      simp only [Bool.false_eq_true, if_false, Bool.false_or, Private_eq, Option.bind_some]
      by_cases h : p = 6
      · simp only [h, if_true, decide_true, Bool.true_and]; exact Ev.now _
      · simp only [h, if_false, decide_false, Bool.false_and]; exact Ev.now _
  have j1t : Ev (fun k => lexis_May.j1 k p r true) false := Ev.step (f := fun _ => some false) (fun k => by simp only [lexis_May.j1, if_true]) (Ev.now _)
  have j0 : Ev (fun k => lexis_May.j0 k p i r false) ((okP p && i) && (common r || (decide (p = 6) && priv r))) := by
    cases ho : okP p with
    | false => exact Ev.step (f := fun k => lexis_May.j1 k p r true) (fun k => by simp only [lexis_May.j0, extra_eq, Option.bind_some, ho, Bool.false_eq_true, if_false]) (by simp only [Bool.false_and]; exact j1t)
    | true =>
      cases i with
      | false => exact Ev.step (f := fun k => lexis_May.j1 k p r true) (fun k => by simp only [lexis_May.j0, extra_eq, Option.bind_some, ho, Bool.false_eq_true, if_false, if_true, Bool.not_false]) (by simp only [Bool.true_and, Bool.false_and]; exact j1t)
      | true => exact Ev.step (f := fun k => lexis_May.j1 k p r false) (fun k => by simp only [lexis_May.j0, extra_eq, Option.bind_some, ho, Bool.false_eq_true, if_false, if_true, Bool.not_true]) (by simp only [Bool.true_and]; exact j1)
  unfold lexis_May.f may
  by_cases h : 0 ≤ r ∧ r < 128
  · have h1 : r ≥ 0 := h.1
    rw [if_pos h]
    simp only [h1, h.2, if_true, decide_true]
    refine Ev.step (f := fun k => (lexis_Plain.f k p (r % 256)).bind fun t => some t) (fun k => by simp only [lexis_May.j0, if_true]) ?_
    rw [show r % 256 = r by omega]
    exact Ev.bind (Plain_ev p r (by omega)) (Ev.now _)
  · rw [if_neg h]
    by_cases h1 : r ≥ 0
    · simp only [h1, if_true]
      rw [decide_eq_false (by omega)]; exact j0
    · simp only [h1, if_false]; exact j0
theorem refMay_ev (p : Int) (i : Bool) (r : Int) : Ev (fun k => monikerref18_May.f k p i r) (may p i r) := by
  have j1 : Ev (fun k => monikerref18_May.j1 k p r false) (common r || (decide (p = 6) && priv r)) := by
    refine Ev.step (f := fun k => (monikerref18_Common.f k r).bind fun t124 => (if t124 = true then (some true) else (if p = 6 then ((monikerref18_Private.f r).bind fun t125 => (some t125)) else (some false)))) (fun k => by simp only [monikerref18_May.j1, Bool.false_eq_true, if_false]) ?_
    refine Ev.bind (refCommon_ev r) ?_
    cases common r with
    | true => simp only [if_true, Bool.true_or]; exact Ev.now _
    | false =>
      simp only [Bool.false_eq_true, if_false, Bool.false_or, refPrivate_eq, Option.bind_some]
      by_cases h : p = 6
      · simp only [h, if_true, decide_true, Bool.true_and]; exact Ev.now _
      · simp only [h, if_false, decide_false, Bool.false_and]; exact Ev.now _
  have j1t : Ev (fun k => monikerref18_May.j1 k p r true) false := Ev.step (f := fun _ => some false) (fun k => by simp only [monikerref18_May.j1, if_true]) (Ev.now _)
  have j0 : Ev (fun k => monikerref18_May.j0 k p i r false) ((okP p && i) && (common r || (decide (p = 6) && priv r))) := by
    cases i with
    | false => exact Ev.step (f := fun k => monikerref18_May.j1 k p r true) (fun k => by simp only [monikerref18_May.j0, Bool.false_eq_true, if_false]) (by simp only [Bool.and_false, Bool.false_and]; exact j1t)
    | true =>
      by_cases a : p < 1
      · refine Ev.step (f := fun k => monikerref18_May.j1 k p r true) (fun k => by simp only [monikerref18_May.j0, Bool.false_eq_true, if_false, if_true]; rw [if_pos a]) ?_
        unfold okP; rw [decide_eq_false (by omega)]; simp only [Bool.false_and]; exact j1t
      · refine Ev.step (f := fun k => monikerref18_May.j1 k p r (decide (p > 7))) (fun k => by simp only [monikerref18_May.j0, Bool.false_eq_true, if_false, if_true]; rw [if_neg a]) ?_
        unfold okP
        by_cases b : p > 7
        · rw [decide_eq_true b, decide_eq_false (by omega)]; simp only [Bool.false_and]; exact j1t
        · rw [decide_eq_false b, decide_eq_true (by omega)]; simp only [Bool.true_and]; exact j1
  unfold monikerref18_May.f may
  by_cases h : 0 ≤ r ∧ r < 128
  · have h1 : r ≥ 0 := h.1
    rw [if_pos h]
    simp only [h1, h.2, if_true, decide_true]
    refine Ev.step (f := fun k => (monikerref18_Plain.f k p (r % 256)).bind fun t => some t) (fun k => by simp only [monikerref18_May.j0, if_true]) ?_
    rw [show r % 256 = r by omega]
    exact Ev.bind (refPlain_ev p r) (Ev.now _)
  · rw [if_neg h]
    by_cases h1 : r ≥ 0
    · simp only [h1, if_true]
      rw [decide_eq_false (by omega)]; exact j0
    · simp only [h1, if_false]; exact j0
theorem may_more (p r : Int) (h : may p false r = true) : may p true r = true := by
  unfold may at h ⊢
  split at h
  · rename_i c; rw [if_pos c]; exact h
  · simp at h
def dirn (r : Int) : Bool := decide (r = 8206 ∨ r = 8207 ∨ (8234 ≤ r ∧ r ≤ 8238))
theorem Direction_eq (r : Int) : lexis_Direction.f r = some (dirn r) := by
  unfold lexis_Direction.f dirn
  repeat' split
  all_goals (congr 1; first | (symm; apply decide_eq_true; omega) | (symm; apply decide_eq_false; omega) | (rw [decide_eq_decide]; omega))
end Go.Proofs.Ytcfoggglbcmhpaa.P18
