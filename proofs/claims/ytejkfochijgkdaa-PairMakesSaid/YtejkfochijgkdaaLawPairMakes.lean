/- The row of the law PairMakes: at every list of pairs the law answers true, and its argument reads behind it as before. No condition. -/
import Derived.Test.YtejkfochijgkdaaRows
import Derived.Test.YtejkfochijgkdaaP07e
import Derived.WalkKit
import Derived.ProofKit
import Derived.OpenShut
import Derived.ShutString
import Derived.ChangeOld
import Derived.Below
import Derived.SizedLaws
import Derived.Deep.Slices
import Derived.ChangeArms
import Derived.Test.YtejkfochijgkdaaWSized
namespace Go.Proofs.Ytejkfochijgkdaa.pairMakes
open Go.ChangeShapes Go.WideShapes Go.ChangeAt Go.RowKit
open Go.ChangeMaps (open_string shut_string)
set_option linter.unusedVariables false
theorem own : ownKnob Try.prog.godebug = none := by kernel_rfl
theorem list2 {α : Type} {l : List α} (h : l.length = 2) : ∃ c0 c1, l = [c0, c1] := by
  match l, h with
  | [c0, c1], _ => exact ⟨c0, c1, rfl⟩
section
variable {H : Type} {enc : TypeId × Value → H} {w : World} {base : Nat} {spare : Nat → Bool} {held : Bool}
/-- An element of the slice, opened. -/
theorem open_pair {x : Addr} {n : Nat} {cs : List Value} {y : DataW H × List MemPlace} {b0 : Nat} (hc : w.cells? b0 x 2 = some cs) (h : DataW.trod enc Try.prog w base spare held n 28 cs = some y) :
    ∃ a b, Pr.PairAt w x a b := by
  obtain ⟨_, hlen, hcell⟩ := World.cells?_some hc
  obtain ⟨e0, e1, rfl⟩ := list2 hlen
  obtain ⟨xs, k, _, hx, hl, hlen2, hfs⟩ := DataW.trod_array Try.underlying28 h
  obtain ⟨y0, y1, rfl⟩ := list2 hlen2
  have h0 : DataW.trod enc Try.prog w base spare held k 21 [e0] = some y0 := by simpa [Pr.cells21, Value.cells] using hfs 0 (by decide)
  have h1 : DataW.trod enc Try.prog w base spare held k 21 [e1] = some y1 := by simpa [Pr.cells21, Value.cells] using hfs 1 (by decide)
  obtain ⟨a, q0, rfl, m0⟩ := DataW.trod_int Try.underlying21 h0
  obtain ⟨b, q1, rfl, m1⟩ := DataW.trod_int Try.underlying21 h1
  simp at q0 q1
  subst q0 q1
  have k0 := hcell 0 (by omega)
  have k1 := hcell 1 (by omega)
  have hs : x.spot = none := by
    rw [show x.add 0 = x from rfl] at k0
    simp only [World.cell?] at k0
    split at k0
    · split at k0
      · simp at k0
      · rename_i hh
        simpa using hh
    · simp at k0
  exact ⟨a, b, hs, k0, k1, m0, m1⟩
end
set_option maxRecDepth 100000 in
theorem lifted (os : Os) (started : os.Started) (H : Type) (enc : TypeId × Value → H) :
    ReturnsInHanded {} Try.checked os 3 .any (Rows.pairMakesSpec.pre6 enc Try.prog Try.f3 Rows.pairMakesRow.domain false) (Rows.pairMakesSpec.post enc Try.prog Try.f3 false true false false) := by
  refine returnsInHanded_of_change_sized (C := Try.checked) own started (by kernel_rfl) Try.func3
    (ChangeSpec.witness6 (enc := enc) (C := Try.checked) false ⟨#[], #[.slice none 0 0], []⟩ 8 (by kernel_rfl) (by kernel_rfl) (by kernel_rfl) (by kernel_rfl)) ?_
  intro W base args ds gs before hval0 hW hcnd hsz0 _
  have hval : ∀ (j : Nat) t v, Try.f3.params[j]? = some t → args[j]? = some v → Value.okWide Try.prog W .any base t v := hval0
  have hW' := hW
  obtain ⟨p, q, hA0, hV, rfl, hfz, hnd⟩ := hW
  have hA : DataW.TrodAll enc Try.prog W 0 (fun _ => true) true Try.f3.params.toList args.toList ds p := hA0
  rw [Try.params3] at hA hval
  obtain ⟨v1, vs1, d1, ds1, p1, q1, hargs, rfl, rfl, h1, r1⟩ := trodAll_cons hA
  obtain ⟨rfl, rfl, rfl⟩ := trodAll_nil r1
  obtain rfl : args = #[v1] := by cases args; simp_all
  obtain ⟨rfl, rfl⟩ := trodVars_none hV
  obtain ⟨a1, len1, cap1, rfl⟩ := okWide_slice Try.underlying22 (hval 0 22 v1 rfl rfl)
  have k1 := h1
  have lt1 : ∀ x ∈ p1, x.block < W.heap.size := by obtain ⟨m, hm⟩ := k1; exact DataW.trod_lt m _ _ _ hm
  have wy : (∀ j, j < len1 → ∃ x a b, a1 = some x ∧ Pr.PairAt W (x.add (j * 2)) a b) ∧ len1 ≤ 9223372036854775807 := by
    obtain ⟨fuel, hf⟩ := h1
    rcases Go.Deep.open_slice Try.underlying22 hf with ⟨hcs, _⟩ | ⟨x, l, c, m, n, D, Pl, hcs, _, hl, hm, hmm, _, hx⟩
    · simp [Value.cells] at hcs
      obtain ⟨rfl, rfl, rfl⟩ := hcs
      exact ⟨fun j hj => absurd hj (Nat.not_lt_zero _), by omega⟩
    · simp [Value.cells] at hcs
      obtain ⟨rfl, rfl, rfl⟩ := hcs
      refine ⟨fun j hj => ?_, by have : maxLen = 9223372036854775807 := rfl; omega⟩
      obtain ⟨cs', g1, g2⟩ := hx j (by rw [hmm]; split <;> omega)
      rw [Pr.cells28] at g1
      obtain ⟨a, b, h⟩ := open_pair g1 g2
      exact ⟨x, a, b, rfl, h⟩
  clear hA0 hval0 hsz0
  refine (Pr.makes_walk _ _ Pr.both a1 len1 cap1 W wy.1 wy.2).mono fun e W' ⟨he, bel⟩ => ?_
  subst he
  exact ⟨_, rfl, _, _, _, [], _, [], hW', trodAll_mk1 (shut_bool Try.underlying4 _), (trodAll_cons_mk (Below.trod Pr.laidOut (by kernel_rfl) (of_decide_eq_true (by kernel_rfl)) k1 bel lt1) trodAll_mk0), rfl, bel.frame _, fun h => by cases h⟩
theorem over : Rows.pairMakesRow.holds Try.pinned (OpenSpec.ofChange Rows.pairMakesSpec) :=
  OpenClaim.holds_of_wide 3 Try.f3 rfl rfl rfl rfl rfl rfl rfl ⟨rfl, rfl, rfl, rfl, rfl⟩ rfl rfl rfl rfl rfl (by kernel_rfl) Try.func3 (by kernel_rfl)
    (of_decide_eq_true (by kernel_rfl)) (by unfold Func.isWrapper; first | (rw [if_pos (by decide +kernel)]; kernel_rfl) | (rw [if_neg (by decide +kernel)]; exact ⟨rfl, rfl⟩))
    (fun os started H enc _ => lifted os started H enc)
theorem proved : Rows.PairMakesSaid := over
#print axioms proved
end Go.Proofs.Ytejkfochijgkdaa.pairMakes
namespace Go.Proofs.Ytejkfochijgkdaa
/-- The row, under a short name, for the claim. -/
theorem pairMakes_holds : Rows.PairMakesSaid := pairMakes.proved
end Go.Proofs.Ytejkfochijgkdaa
