import Derived.Test.YtamahbpkekbokaaPAllx7
import Derived.Test.YtamahbpkekbokaaP04e
namespace Go.Proofs.Ytamahbpkekbokaa.Pure
open Go.RowKit Go.Proofs.Ytamahbpkekbokaa.PAll Go.Proofs.Ytamahbpkekbokaa.P04 Go.Proofs.YtamahbpkekbokaaW.PrintWords Go.Proofs.YtamahbpkekbokaaW.PrintLast

theorem EscapeCodes : monikerlaw04_EscapeCodes.Pure := by
  intro s c _ _
  refine Ev.rounds (g := fun k => monikerlaw04_EscapeCodes.f k s c) ?_
  unfold monikerlaw04_EscapeCodes.f
  by_cases h : (s.size : Int) > 300
  · simp only [if_pos h]
    exact Ev.bind awake_ev (Ev.now _)
  · have hs : s.size ≤ 1048576 := by omega
    simp only [if_neg h]
    refine Ev.bind (encP_ev s hs c) ?_
    have hz : (strOfNums (enc c (bytesOf s))).size ≤ 1048576 := by
      have := enc_size c (bytesOf s)
      rw [strOfNums_size]
      rw [bytesOf_length] at this
      omega
    simp only [escape_Decode.f, escape_Right.f, if_pos hz, Option.bind_some, enc_right, if_true, enc_dec]
    refine Ev.bind (encR_ev s hs c) ?_
    simp only [if_true]
    exact Ev.bind awake_ev (Ev.now _)

end Go.Proofs.Ytamahbpkekbokaa.Pure
