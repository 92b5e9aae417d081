/- The law PairBack, walked. -/
import Derived.Test.YtejkfochijgkdaaPa
import Derived.Test.YtejkfochijgkdaaP07c
import Derived.OpenShut
namespace Go.Proofs.Ytejkfochijgkdaa.Pr
open Go.RowKit Go.Maps Go.Proofs.Ytejkfochijgkdaa.MapF Go.Proofs.YtejkfochijgkdaaW.PrintWords Go.Proofs.YtejkfochijgkdaaW.PrintLast Go.Proofs.YtejkfochijgkdaaW.PrintMore
set_option linter.unusedVariables false
theorem wf_rng {x : Int} (h : 0 ≤ x ∧ x ≤ 1114111) : (Lit.int .i32 x).wf = true := by
  simp [Lit.wf, IntKind.min, IntKind.max, IntKind.signed, IntKind.bits]
  omega
theorem any233 : (PN ++ TN6).any (fun t => Nat.beq t.1 233 && (Nat.beq t.2.1 101 && Nat.beq t.2.2 769)) = true := by decide +kernel
theorem mem233 : ((233, (101, 769)) : T3) ∈ LAz := by
  obtain ⟨t, ht, h⟩ := List.any_eq_true.1 any233
  simp only [Bool.and_eq_true] at h
  unfold LAz
  refine List.mem_map.2 ⟨t, ht, ?_⟩
  unfold toI
  rw [Nat.eq_of_beq_eq_true h.1, Nat.eq_of_beq_eq_true h.2.1, Nat.eq_of_beq_eq_true h.2.2]
  rfl
theorem d233 : tabS.dn 233 = some (101, 769) := by
  rw [tab_dn]
  exact dnL_of _ _ _ _ nodup_r mem233
theorem u233 : tabS.up 101 769 = some 233 := back_up d233 (by unfold exclV; rw [d233]; rfl)
theorem downV_none {dn : Int → Option (Int × Int)} {r : Int} (h : dn r = none) : downV dn r = (0, 0, 0) := by unfold downV; rw [h]
theorem downV_one {dn : Int → Option (Int × Int)} {r x : Int} (h : dn r = some (x, 0)) : downV dn r = (x, 0, 1) := by unfold downV; rw [h]; rfl
theorem downV_two {dn : Int → Option (Int × Int)} {r x y : Int} (h : dn r = some (x, y)) (hy : y ≠ 0) : downV dn r = (x, y, 2) := by unfold downV; rw [h]; exact if_neg hy
end Go.Proofs.Ytejkfochijgkdaa.Pr
