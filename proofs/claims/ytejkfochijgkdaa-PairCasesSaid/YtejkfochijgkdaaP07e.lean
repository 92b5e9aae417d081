/- Both tables, together: what the laws lean on. -/
import Derived.Test.YtejkfochijgkdaaP07d
import Derived.Test.YtejkfochijgkdaaPm
import Derived.Test.YtejkfochijgkdaaPb0
namespace Go.Proofs.Ytejkfochijgkdaa.Pr
open Go.Proofs.Ytejkfochijgkdaa.Pt (acc all_calls)
open Go.RowKit Go.Proofs.YtejkfochijgkdaaW.PrintWords
theorem all_reads (w : World) : Calls Try.prog 9 #[] w fun e w' => ∃ A c, e = .returned (.slice A (acc 7).length c) ∧ Kd.C Pt.k53 w' A (acc 7).length (acc 7) ∧ Below w.heap.size w w' := by
  refine (all_calls w).mono ?_
  rintro e w' ⟨v, rfl, hr, hb⟩
  obtain ⟨A, c, rfl, _, hc⟩ := Kd.R_reads hr
  exact ⟨A, c, rfl, hc, hb⟩
theorem both : Both tabS (acc 7) :=
  ⟨new_calls, all_reads, by have := Pt.acc_len 7 (by decide); omega, downV_two d233 (by decide), u233, rup_eq, fun _ _ _ h => up_rng h, rdown_eq, rexcl_eq, rsec_eq, len_eq⟩
end Go.Proofs.Ytejkfochijgkdaa.Pr
