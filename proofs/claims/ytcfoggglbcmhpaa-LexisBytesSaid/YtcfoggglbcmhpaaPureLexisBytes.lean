import Derived.Test.YtcfoggglbcmhpaaP18
namespace Go.Proofs.Ytcfoggglbcmhpaa.Pure
open Go.RowKit Go.Proofs.Ytcfoggglbcmhpaa.PAll Go.Proofs.Ytcfoggglbcmhpaa.P18 Go.Proofs.YtcfoggglbcmhpaaW.PrintWords Go.Proofs.YtcfoggglbcmhpaaW.PrintLast

theorem LexisBytes : monikerlaw18_LexisBytes.Pure := by
  intro p b _ hb
  refine Ev.rounds ?_
  have hr : 0 ≤ b ∧ b ≤ 255 := by
    simp [Lit.wf, IntKind.min, IntKind.max, IntKind.signed, IntKind.bits] at hb
    omega
  unfold monikerlaw18_LexisBytes.f
  refine Ev.bind (Plain_ev p b hr) ?_
  refine Ev.bind (refPlain_ev p b) ?_
  simp only [beq_self_eq_true, if_true]
  exact Ev.bind awake_ev (Ev.now _)

end Go.Proofs.Ytcfoggglbcmhpaa.Pure
