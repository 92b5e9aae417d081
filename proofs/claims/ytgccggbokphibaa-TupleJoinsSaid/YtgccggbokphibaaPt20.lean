/- The struct of five components among a law's arguments: opened, and shut again. No condition but those that each names. -/
import Derived.Test.YtgccggbokphibaaProg
import Derived.OpenShut
import Derived.ShutString
import Derived.ChangeArms
import Derived.ChangeSame
import Derived.WideShapes
import Derived.SizedLaws
import Derived.KernelRfl
namespace Go.Proofs.Ytgccggbokphibaa.Pt
open Go.RowKit Go.WideShapes Go.ChangeShapes
set_option linter.unusedVariables false
theorem array8 {α : Type} {cs : Array α} (h : cs.size = 8) : ∃ c0 c1 c2 c3 c4 c5 c6 c7, cs = #[c0, c1, c2, c3, c4, c5, c6, c7] := by
  obtain ⟨l⟩ := cs
  match l, h with
  | [c0, c1, c2, c3, c4, c5, c6, c7], _ => exact ⟨c0, c1, c2, c3, c4, c5, c6, c7, rfl⟩
theorem list8 {α : Type} {l : List α} (h : l.length = 8) : ∃ c0 c1 c2 c3 c4 c5 c6 c7, l = [c0, c1, c2, c3, c4, c5, c6, c7] := by
  match l, h with
  | [c0, c1, c2, c3, c4, c5, c6, c7], _ => exact ⟨c0, c1, c2, c3, c4, c5, c6, c7, rfl⟩
theorem c9 : Try.prog.cellsOf 9 = 1 := by kernel_rfl
theorem c4 : Try.prog.cellsOf 4 = 1 := by kernel_rfl
theorem c23 : Try.prog.cellsOf 23 = 8 := by kernel_rfl
section
variable {H : Type} {enc : TypeId × Value → H} {w : World} {base : Nat} {spare : Nat → Bool} {held : Bool}
theorem open_parts {r : Reach} {b0 : Nat} {v : Value} {d : DataW H} {p : List MemPlace} (hv : Value.okWide Try.prog w r b0 23 v) (h : DataW.Trod enc Try.prog w base spare held 23 v d p) :
    ∃ (a0 : ByteArray) (a1 : Bool) (a2 a3 : ByteArray) (a4 : Bool) (a5 : ByteArray) (a6 : Bool) (a7 : ByteArray), v = .agg #[.string a0, .bool a1, .string a2, .string a3, .bool a4, .string a5, .bool a6, .string a7] ∧
      d = .agg [.lit (.string a0.data.toList), .lit (.bool a1), .lit (.string a2.data.toList), .lit (.string a3.data.toList), .lit (.bool a4), .lit (.string a5.data.toList), .lit (.bool a6), .lit (.string a7.data.toList)] ∧ p = [] ∧
      a0.size ≤ maxLen ∧ a2.size ≤ maxLen ∧ a3.size ≤ maxLen ∧ a5.size ≤ maxLen ∧ a7.size ≤ maxLen := by
  obtain ⟨cs, rfl, hsz⟩ := okWide_struct Try.underlying23 hv
  obtain ⟨e0, e1, e2, e3, e4, e5, e6, e7, rfl⟩ := array8 (hsz.trans c23)
  obtain ⟨fuel, hf⟩ := h
  obtain ⟨xs, n, _, hx, hl, hlen, hfs⟩ := DataW.trod_struct Try.underlying23 hf
  obtain ⟨y0, y1, y2, y3, y4, y5, y6, y7, rfl⟩ := list8 hlen
  have h0 : DataW.trod enc Try.prog w base spare held n 9 [e0] = some y0 := by simpa [c9, c4, Value.cells] using hfs 0 _ rfl
  have h1 : DataW.trod enc Try.prog w base spare held n 4 [e1] = some y1 := by simpa [c9, c4, Value.cells] using hfs 1 _ rfl
  have h2 : DataW.trod enc Try.prog w base spare held n 9 [e2] = some y2 := by simpa [c9, c4, Value.cells] using hfs 2 _ rfl
  have h3 : DataW.trod enc Try.prog w base spare held n 9 [e3] = some y3 := by simpa [c9, c4, Value.cells] using hfs 3 _ rfl
  have h4 : DataW.trod enc Try.prog w base spare held n 4 [e4] = some y4 := by simpa [c9, c4, Value.cells] using hfs 4 _ rfl
  have h5 : DataW.trod enc Try.prog w base spare held n 9 [e5] = some y5 := by simpa [c9, c4, Value.cells] using hfs 5 _ rfl
  have h6 : DataW.trod enc Try.prog w base spare held n 4 [e6] = some y6 := by simpa [c9, c4, Value.cells] using hfs 6 _ rfl
  have h7 : DataW.trod enc Try.prog w base spare held n 9 [e7] = some y7 := by simpa [c9, c4, Value.cells] using hfs 7 _ rfl
  clear hfs hf hl hlen hv hsz
  obtain ⟨s0, q0, rfl, m0⟩ := DataW.trod_string Try.underlying9 h0
  obtain ⟨s1, q1, rfl⟩ := DataW.trod_bool Try.underlying4 h1
  obtain ⟨s2, q2, rfl, m2⟩ := DataW.trod_string Try.underlying9 h2
  obtain ⟨s3, q3, rfl, m3⟩ := DataW.trod_string Try.underlying9 h3
  obtain ⟨s4, q4, rfl⟩ := DataW.trod_bool Try.underlying4 h4
  obtain ⟨s5, q5, rfl, m5⟩ := DataW.trod_string Try.underlying9 h5
  obtain ⟨s6, q6, rfl⟩ := DataW.trod_bool Try.underlying4 h6
  obtain ⟨s7, q7, rfl, m7⟩ := DataW.trod_string Try.underlying9 h7
  cases q0; cases q1; cases q2; cases q3; cases q4; cases q5; cases q6; cases q7
  injection hx with hx1 hx2
  exact ⟨s0, s1, s2, s3, s4, s5, s6, s7, rfl, by rw [hx1]; rfl, by rw [hx2]; rfl, m0, m2, m3, m5, m7⟩
theorem shut_parts {a0 : ByteArray} {a1 : Bool} {a2 a3 : ByteArray} {a4 : Bool} {a5 : ByteArray} {a6 : Bool} {a7 : ByteArray} (h0 : a0.size ≤ maxLen) (h2 : a2.size ≤ maxLen) (h3 : a3.size ≤ maxLen) (h5 : a5.size ≤ maxLen) (h7 : a7.size ≤ maxLen) :
    DataW.Trod enc Try.prog w base spare held 23 (.agg #[.string a0, .bool a1, .string a2, .string a3, .bool a4, .string a5, .bool a6, .string a7]) (.agg [.lit (.string a0.data.toList), .lit (.bool a1), .lit (.string a2.data.toList), .lit (.string a3.data.toList), .lit (.bool a4), .lit (.string a5.data.toList), .lit (.bool a6), .lit (.string a7.data.toList)]) [] := by
  have t9 : ∀ s : ByteArray, s.size ≤ maxLen → DataW.trod enc Try.prog w base spare held 1 9 [.string s] = some (.lit (.string s.data.toList), []) := fun s hs => by simp [DataW.trod, Try.underlying9, hs]
  have t4 : ∀ b : Bool, DataW.trod enc Try.prog w base spare held 1 4 [.bool b] = some (.lit (.bool b), []) := fun b => by simp [DataW.trod, Try.underlying4]
  have ts := trod_struct_mk (enc := enc) (w := w) (base := base) (spare := spare) (held := held) (n := 1) (cs := [.string a0, .bool a1, .string a2, .string a3, .bool a4, .string a5, .bool a6, .string a7])
    (xs := [(.lit (.string a0.data.toList), []), (.lit (.bool a1), []), (.lit (.string a2.data.toList), []), (.lit (.string a3.data.toList), []), (.lit (.bool a4), []), (.lit (.string a5.data.toList), []), (.lit (.bool a6), []), (.lit (.string a7.data.toList), [])]) Try.underlying23 (by simp [c23])
    (by simp [c9, c4, t9 a0 h0, t9 a2 h2, t9 a3 h3, t9 a5 h5, t9 a7 h7, t4])
  exact ⟨_, by simpa [Value.cells] using ts⟩
theorem sized_parts {ts : List TypeId} {ds : List (DataW H)} {a0 : ByteArray} {a1 : Bool} {a2 a3 : ByteArray} {a4 : Bool} {a5 : ByteArray} {a6 : Bool} {a7 : ByteArray} (h : (DataW.weightsEach Try.prog ts ds).all (· ≤ reachBytes) = true) (ht : ts[0]? = some 23)
    (hd : ds[0]? = some (.agg [.lit (.string a0.data.toList), .lit (.bool a1), .lit (.string a2.data.toList), .lit (.string a3.data.toList), .lit (.bool a4), .lit (.string a5.data.toList), .lit (.bool a6), .lit (.string a7.data.toList)])) :
    a0.size ≤ 140737488351232 ∧ a2.size ≤ 140737488351232 ∧ a3.size ≤ 140737488351232 ∧ a5.size ≤ 140737488351232 ∧ a7.size ≤ 140737488351232 := by
  have key : ∀ a : ByteArray, a.data.toList.length ∈ (DataW.agg [.lit (.string a0.data.toList), .lit (.bool a1), .lit (.string a2.data.toList), .lit (.string a3.data.toList), .lit (.bool a4), .lit (.string a5.data.toList), .lit (.bool a6), .lit (.string a7.data.toList)] : DataW H).weights Try.prog 23 → a.size ≤ 140737488351232 := by
    intro a ha
    have := List.all_eq_true.1 h _ (DataW.weights_mem_each ht hd _ ha)
    have h2 : a.data.toList.length ≤ reachBytes := by simpa using this
    rw [Array.length_toList] at h2
    exact h2
  refine ⟨key a0 ?_, key a2 ?_, key a3 ?_, key a5 ?_, key a7 ?_⟩ <;> simp [DataW.weights, Try.underlying23, DataW.weightsEach]
end
end Go.Proofs.Ytgccggbokphibaa.Pt
