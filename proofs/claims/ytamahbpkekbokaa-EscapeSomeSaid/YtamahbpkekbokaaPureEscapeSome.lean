import Derived.Test.YtamahbpkekbokaaPAllx6
import Derived.Test.YtamahbpkekbokaaP04e
namespace Go.Proofs.Ytamahbpkekbokaa.Pure
open Go.RowKit Go.Proofs.Ytamahbpkekbokaa.PAll Go.Proofs.Ytamahbpkekbokaa.P04 Go.Proofs.YtamahbpkekbokaaW.PrintWords Go.Proofs.YtamahbpkekbokaaW.PrintLast

theorem EscapeSome : monikerlaw04_EscapeSome.Pure := by
  intro s c _ _
  refine Ev.rounds (g := fun k => monikerlaw04_EscapeSome.f k s c) ?_
  unfold monikerlaw04_EscapeSome.f
  by_cases h : (s.size : Int) > 300
  · simp only [if_pos h]
    exact Ev.bind awake_ev (Ev.now _)
  · have hs : s.size ≤ 1048576 := by omega
    have hu : (repl s ofS (fun _ => true)).size ≤ 1048576 := Nat.le_trans (repl_size s _ _ ofS_size) hs
    have hm : (repl s oneS (fun b => isB b c)).size ≤ 1048576 := Nat.le_trans (repl_size s _ _ (fun b => (by decide : 1 ≤ 3))) hs
    simp only [if_neg h, escape_Upper.f, escape_Some.f, if_pos hs, if_pos hu, if_pos hm, Option.bind_some]
    refine Ev.bind (refS_ev s hs c false false) ?_
    rw [← some_ref]
    simp only [if_true]
    refine Ev.bind (refS_ev s hs 0 false true) ?_
    rw [← up_ref]
    simp only [if_true]
    rw [up_twice]
    simp only [if_true]
    refine Ev.bind (refS_ev _ hm 0 false true) ?_
    rw [← up_ref]
    simp only [if_true]
    exact Ev.bind awake_ev (Ev.now _)

end Go.Proofs.Ytamahbpkekbokaa.Pure
