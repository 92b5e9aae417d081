import Derived.Test.YtamahbpkekbokaaPAllx7
import Derived.Test.YtamahbpkekbokaaP04e
namespace Go.Proofs.Ytamahbpkekbokaa.Pure
open Go.RowKit Go.Proofs.Ytamahbpkekbokaa.PAll Go.Proofs.Ytamahbpkekbokaa.P04 Go.Proofs.YtamahbpkekbokaaW.PrintWords Go.Proofs.YtamahbpkekbokaaW.PrintLast

theorem EscapeDecodes : monikerlaw04_EscapeDecodes.Pure := by
  intro s _
  refine Ev.rounds (g := fun k => monikerlaw04_EscapeDecodes.f k s) ?_
  unfold monikerlaw04_EscapeDecodes.f
  by_cases h : (s.size : Int) > 300
  · simp only [if_pos h]
    exact Ev.bind awake_ev (Ev.now _)
  · have hs : s.size ≤ 1048576 := by omega
    simp only [if_neg h, escape_Decode.f, if_pos hs, Option.bind_some]
    refine Ev.bind (refR_ev s hs) ?_
    rw [right_eq]
    cases hr : rt (bytesOf s) with
    | false =>
      simp only [Bool.false_eq_true, if_false, bytes_empty_list, if_true]
      exact Ev.bind awake_ev (Ev.now _)
    | true =>
      simp only [if_true]
      refine Ev.bind (refS_ev s hs 0 true false) ?_
      rw [← dec_ref]
      simp only [if_true]
      exact Ev.bind awake_ev (Ev.now _)

end Go.Proofs.Ytamahbpkekbokaa.Pure
