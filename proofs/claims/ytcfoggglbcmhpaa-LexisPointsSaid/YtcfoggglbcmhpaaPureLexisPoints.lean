import Derived.Test.YtcfoggglbcmhpaaP18
namespace Go.Proofs.Ytcfoggglbcmhpaa.Pure
open Go.RowKit Go.Proofs.Ytcfoggglbcmhpaa.PAll Go.Proofs.Ytcfoggglbcmhpaa.P18 Go.Proofs.YtcfoggglbcmhpaaW.PrintWords Go.Proofs.YtcfoggglbcmhpaaW.PrintLast

theorem points_j0 (r p : Int) (h : r < 2147483648) : Ev (fun k => monikerlaw18_LexisPoints.j0 k r p r (dirn r)) true := by
  refine Ev.step (f := fun k => (lexis_Common.f k r).bind fun t160 => ((monikerref18_Common.f k r).bind fun t161 => (if (t160 == t161) = true then ((lexis_May.f k p true r).bind fun t165 => ((monikerref18_May.f k p true r).bind fun t166 => (if (t165 == t166) = true then ((lexis_May.f k p false r).bind fun t167 => ((monikerref18_May.f k p false r).bind fun t168 => (if (t167 == t168) = true then ((lexis_May.f k p false r).bind fun t169 => (if t169 = true then ((lexis_May.f k p true r).bind fun t170 => (if t170 = true then ((monikerlaw18_awake.f k).bind fun t171 => (some t171)) else (some false))) else ((monikerlaw18_awake.f k).bind fun t172 => (some t172)))) else (some false)))) else (some false)))) else (some false)))) (fun k => by simp only [monikerlaw18_LexisPoints.j0, Private_eq, refPrivate_eq, Direction_eq, Option.bind_some, beq_self_eq_true, if_true]) ?_
  refine Ev.bind (Common_ev r h) ?_
  refine Ev.bind (refCommon_ev r) ?_
  simp only [beq_self_eq_true, if_true]
  refine Ev.bind (May_ev p true r h) ?_
  refine Ev.bind (refMay_ev p true r) ?_
  simp only [beq_self_eq_true, if_true]
  refine Ev.bind (May_ev p false r h) ?_
  refine Ev.bind (refMay_ev p false r) ?_
  simp only [beq_self_eq_true, if_true]
  refine Ev.bind (May_ev p false r h) ?_
  cases hm : may p false r with
  | true =>
    simp only [if_true]
    refine Ev.bind (May_ev p true r h) ?_
    simp only [may_more p r hm, if_true]
    exact Ev.bind awake_ev (Ev.now _)
  | false =>
    simp only [Bool.false_eq_true, if_false]
    exact Ev.bind awake_ev (Ev.now _)
theorem LexisPoints : monikerlaw18_LexisPoints.Pure := by
  intro r p hb _
  refine Ev.rounds ?_
  have hr : -2147483648 ≤ r ∧ r < 2147483648 := by
    simp [Lit.wf, IntKind.min, IntKind.max, IntKind.signed, IntKind.bits] at hb
    omega
  have hw : wrap64 r = r := by unfold wrap64; omega
  have key := points_j0 r p hr.2
  unfold monikerlaw18_LexisPoints.f
  simp only [hw]
  by_cases a : r = 8206
  · simp only [a, if_true]
    rw [a] at key; exact key
  by_cases b : r = 8207
  · simp only [b, if_true]
    rw [b] at key; exact key
  simp only [a, b, if_false]
  by_cases c : r ≥ 8234
  · simp only [c, if_true]
    rw [show dirn r = decide (r ≤ 8238) by unfold dirn; rw [decide_eq_decide]; omega] at key
    exact key
  · simp only [c, if_false]
    rw [show dirn r = false by unfold dirn; exact decide_eq_false (by omega)] at key
    exact key

end Go.Proofs.Ytcfoggglbcmhpaa.Pure
