import Derived.Test.YtedaalklakokkaaPAllx5
import Derived.Test.YtedaalklakokkaaP02c
namespace Go.Proofs.Ytedaalklakokkaa.Pure
open Go.RowKit Go.Proofs.Ytedaalklakokkaa.PAll Go.Proofs.Ytedaalklakokkaa.By Go.Proofs.Ytedaalklakokkaa.P02 Go.Proofs.YtedaalklakokkaaW.PrintWords Go.Proofs.YtedaalklakokkaaW.PrintLast

theorem UtfDecodes : monikerlaw02_UtfDecodes.Pure := by
  intro s hs
  refine Ev.rounds ?_
  unfold monikerlaw02_UtfDecodes.f
  by_cases c : (s.size : Int) > 300
  · simp only [c, if_true]
    exact Ev.bind awake_ev (Ev.now _)
  simp only [c, if_false, udec s (by omega), rdec s (by omega), ufault s (by omega), uvalid s (by omega), Option.bind_some]
  have hv := dec_val _ (byt_of s)
  rw [w64 (by omega) (by omega)]
  simp only [if_true, beq_self_eq_true]
  refine Ev.bind (f := fun k t127 => if flt (bytesOf s) = t127 then ((monikerref02_Fault.f k s).bind fun t129 => (if ((decide (flt (bytesOf s) < 0)) == (decide (t129 < 0))) = true then ((monikerlaw02_awake.f k).bind fun t130 => (some t130)) else (some false))) else some false) (rfault s (by omega)) ?_
  simp only [if_true]
  refine Ev.bind (f := fun k t129 => (if ((decide (flt (bytesOf s) < 0)) == (decide (t129 < 0))) = true then ((monikerlaw02_awake.f k).bind fun t130 => (some t130)) else (some false))) (rfault s (by omega)) ?_
  simp only [beq_self_eq_true, if_true]
  exact Ev.bind awake_ev (Ev.now _)

end Go.Proofs.Ytedaalklakokkaa.Pure
