/- The pure law TupleGuards: any components' path is guarded as the document says; nothing else is changed. Condition: each component is within the form's reach. -/
import Derived.Test.YtgccggbokphibaaP20g
namespace Go.Proofs.Ytgccggbokphibaa.Pure
open Go.RowKit Go.Proofs.Ytgccggbokphibaa.PAll Go.Proofs.Ytgccggbokphibaa.By Go.Proofs.Ytgccggbokphibaa.P20 Go.Proofs.YtgccggbokphibaaW.PrintWords Go.Proofs.YtgccggbokphibaaW.PrintLast
set_option linter.unusedVariables false

theorem TupleGuards (a0 : ByteArray) (a1 : Bool) (a2 a3 : ByteArray) (a4 : Bool) (a5 : ByteArray) (a6 : Bool) (a7 : ByteArray) (h0 : a0.size ≤ 140737488351232) (h2 : a2.size ≤ 140737488351232) (h3 : a3.size ≤ 140737488351232) (h5 : a5.size ≤ 140737488351232) (h7 : a7.size ≤ 140737488351232) :
    ∃ k, monikerlaw20_TupleGuards.f k a0 a1 a2 a3 a4 a5 a6 a7 = some true := by
  refine Ev.rounds (g := fun k => monikerlaw20_TupleGuards.f k a0 a1 a2 a3 a4 a5 a6 a7) ?_
  unfold monikerlaw20_TupleGuards.f
  rw [long_eq a0 a1 a2 a3 a4 a5 a6 a7 h0 h2 h3 h5 h7]
  simp only [Option.bind_some]
  by_cases hl : a0.size + a2.size ≤ 200 ∧ a3.size ≤ 200 ∧ a5.size + a7.size ≤ 200
  · rw [decide_eq_false (fun x => x hl)]
    simp only [Bool.false_eq_true, if_false]
    obtain ⟨g, e1, e2⟩ := guard_both a0 a1 a2 a3 a4 a5 a6 a7 (by omega)
    rw [e1]
    simp only [Option.bind_some]
    refine Ev.bind e2 ?_
    simp only [beq_self_eq_true, Bool.and_self, if_true]
    exact Ev.bind awake_ev (Ev.now _)
  · rw [decide_eq_true hl]
    simp only [if_true]
    exact Ev.bind awake_ev (Ev.now _)
theorem TupleGuards_walk (a0 : ByteArray) (a1 : Bool) (a2 a3 : ByteArray) (a4 : Bool) (a5 : ByteArray) (a6 : Bool) (a7 : ByteArray) (W : World) (h0 : a0.size ≤ 140737488351232) (h2 : a2.size ≤ 140737488351232) (h3 : a3.size ≤ 140737488351232) (h5 : a5.size ≤ 140737488351232) (h7 : a7.size ≤ 140737488351232) :
    Calls Try.prog 3 #[.agg #[.string a0, .bool a1, .string a2, .string a3, .bool a4, .string a5, .bool a6, .string a7]] W fun e w' => e = .returned (.bool true) ∧ Below W.heap.size W w' := by
  obtain ⟨k, hk⟩ := TupleGuards a0 a1 a2 a3 a4 a5 a6 a7 h0 h2 h3 h5 h7
  exact monikerlaw20_TupleGuards.calls k a0 a1 a2 a3 a4 a5 a6 a7 true W hk
end Go.Proofs.Ytgccggbokphibaa.Pure
