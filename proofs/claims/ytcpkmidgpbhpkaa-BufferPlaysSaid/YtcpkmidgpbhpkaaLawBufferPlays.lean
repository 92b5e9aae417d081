/- The row of the law BufferPlays: at every room and every sequence of calls the law answers true, and its arguments read behind it as before. No condition. -/
import Derived.Test.YtcpkmidgpbhpkaaRows
import Derived.Test.YtcpkmidgpbhpkaaPlays
import Derived.WalkKit
import Derived.ProofKit
import Derived.OpenShut
import Derived.ShutString
import Derived.ChangeOld
import Derived.Below
import Derived.SizedLaws
import Derived.Deep.Slices
import Derived.ChangeArms
import Derived.Test.YtcpkmidgpbhpkaaWSized
namespace Go.Proofs.Ytcpkmidgpbhpkaa.bufferPlays
open Go.ChangeShapes Go.WideShapes Go.ChangeAt Go.RowKit
open Go.ChangeMaps (open_string shut_string)
set_option linter.unusedVariables false
theorem own : ownKnob Try.prog.godebug = none := by kernel_rfl
theorem laidOut : laidOutB Try.prog = true := by kernel_rfl
theorem c3 : Try.prog.cellsOf 3 = 1 := by kernel_rfl
theorem c9 : Try.prog.cellsOf 9 = 1 := by kernel_rfl
theorem c5 : Try.prog.cellsOf 5 = 1 := by kernel_rfl
theorem c37 : Try.prog.cellsOf 37 = 4 := by kernel_rfl
theorem list4 {α : Type} {l : List α} (h : l.length = 4) : ∃ c0 c1 c2 c3, l = [c0, c1, c2, c3] := by
  match l, h with
  | [c0, c1, c2, c3], _ => exact ⟨c0, c1, c2, c3, rfl⟩
section
variable {H : Type} {enc : TypeId × Value → H} {w : World} {base : Nat} {spare : Nat → Bool} {held : Bool}
/-- An element of the slice, opened. -/
theorem open_op {x : Addr} {n : Nat} {cs : List Value} {y : DataW H × List MemPlace} {b0 : Nat} (hc : w.cells? b0 x 4 = some cs) (h : DataW.trod enc Try.prog w base spare held n 37 cs = some y) :
    ∃ kind m t c, Buf.OpAt w x kind m t c := by
  obtain ⟨_, hlen, hcell⟩ := World.cells?_some hc
  obtain ⟨e0, e1, e2, e3, rfl⟩ := list4 hlen
  obtain ⟨xs, k, _, hx, hl, hlen2, hfs⟩ := DataW.trod_struct Try.underlying37 h
  obtain ⟨y0, y1, y2, y3, rfl⟩ := list4 hlen2
  have h0 : DataW.trod enc Try.prog w base spare held k 3 [e0] = some y0 := by simpa [c3, c9, c5, Value.cells] using hfs 0 _ rfl
  have h1 : DataW.trod enc Try.prog w base spare held k 3 [e1] = some y1 := by simpa [c3, c9, c5, Value.cells] using hfs 1 _ rfl
  have h2 : DataW.trod enc Try.prog w base spare held k 9 [e2] = some y2 := by simpa [c3, c9, c5, Value.cells] using hfs 2 _ rfl
  have h3 : DataW.trod enc Try.prog w base spare held k 5 [e3] = some y3 := by simpa [c3, c9, c5, Value.cells] using hfs 3 _ rfl
  obtain ⟨a, q0, rfl, _⟩ := DataW.trod_int Try.underlying3 h0
  obtain ⟨b, q1, rfl, _⟩ := DataW.trod_int Try.underlying3 h1
  obtain ⟨s, q2, rfl, m2⟩ := DataW.trod_string Try.underlying9 h2
  obtain ⟨c, q3, rfl, w3⟩ := DataW.trod_int Try.underlying5 h3
  simp at q0 q1 q2 q3
  subst q0 q1 q2 q3
  have k0 := hcell 0 (by omega)
  have k1 := hcell 1 (by omega)
  have k2 := hcell 2 (by omega)
  have k3 := hcell 3 (by omega)
  have hs : x.spot = none := by
    rw [show x.add 0 = x from rfl] at k0
    simp only [World.cell?] at k0
    split at k0
    · split at k0
      · simp at k0
      · rename_i hh
        simpa using hh
    · simp at k0
  have ex : x = ⟨x.block, x.off, none⟩ := by rw [← hs]
  refine ⟨a, b, s, c, hs, ?_, ?_, ?_, ?_, by simpa [maxLen] using m2, bounds_u8 w3⟩
  · rw [← ex]; exact k0
  · exact k1
  · exact k2
  · exact k3
end
set_option maxRecDepth 100000 in
theorem lifted (os : Os) (started : os.Started) (H : Type) (enc : TypeId × Value → H) :
    ReturnsInHanded {} Try.checked os 5 .any (Rows.bufferPlaysSpec.pre6 enc Try.prog Try.f5 Rows.bufferPlaysRow.domain false) (Rows.bufferPlaysSpec.post enc Try.prog Try.f5 false true false false) := by
  refine returnsInHanded_of_change_sized (C := Try.checked) own started (by kernel_rfl) Try.func5
    (ChangeSpec.witness6 (enc := enc) (C := Try.checked) false ⟨#[], #[.int .i64 0, .slice none 0 0], []⟩ 8 (by kernel_rfl) (by kernel_rfl) (by kernel_rfl) (by kernel_rfl)) ?_
  intro W base args ds gs before hval0 hW hcnd hsz0 _
  have hsz : (DataW.weightsEach Try.prog (Try.f5.params.toList ++ Rows.bufferPlaysSpec.plain.varTypes Try.prog) (ds ++ gs)).all (· ≤ reachBytes) = true := hsz0
  have hval : ∀ (j : Nat) t v, Try.f5.params[j]? = some t → args[j]? = some v → Value.okWide Try.prog W .any base t v := hval0
  have hW' := hW
  obtain ⟨p, q, hA0, hV, rfl, hfz, hnd⟩ := hW
  have hA : DataW.TrodAll enc Try.prog W 0 (fun _ => true) true Try.f5.params.toList args.toList ds p := hA0
  rw [Try.params5] at hA hval hsz
  obtain ⟨v0, vs0, d0, ds0, p0, q0, hargs, rfl, rfl, h0, r0⟩ := trodAll_cons hA
  obtain ⟨v1, vs1, d1, ds1, p1, q1, rfl, rfl, rfl, h1, r1⟩ := trodAll_cons r0
  obtain ⟨rfl, rfl, rfl⟩ := trodAll_nil r1
  obtain rfl : args = #[v0, v1] := by cases args; simp_all
  obtain ⟨rfl, rfl⟩ := trodVars_none hV
  obtain ⟨a0, rfl, rfl, rfl, w0⟩ := open_int Try.underlying3 (hval 0 3 v0 rfl rfl) h0
  obtain ⟨a1, len1, cap1, rfl⟩ := okWide_slice Try.underlying33 (hval 1 33 v1 rfl rfl)
  have k1 := h1
  have lt1 : ∀ x ∈ p1, x.block < W.heap.size := by obtain ⟨m, hm⟩ := k1; exact DataW.trod_lt m _ _ _ hm
  have wy : (∀ j, j < len1 → ∃ x kind n s c, a1 = some x ∧ Buf.OpAt W (x.add (j * 4)) kind n s c) ∧ len1 ≤ 9223372036854775807 := by
    obtain ⟨fuel, hf⟩ := h1
    rcases Go.Deep.open_slice Try.underlying33 hf with ⟨hcs, _⟩ | ⟨x, l, c, m, n, D, Pl, hcs, _, hl, hm, hmm, _, hx⟩
    · simp [Value.cells] at hcs
      obtain ⟨rfl, rfl, rfl⟩ := hcs
      exact ⟨fun j hj => absurd hj (Nat.not_lt_zero _), by omega⟩
    · simp [Value.cells] at hcs
      obtain ⟨rfl, rfl, rfl⟩ := hcs
      refine ⟨fun j hj => ?_, by have : maxLen = 9223372036854775807 := rfl; omega⟩
      obtain ⟨cs', g1, g2⟩ := hx j (by rw [hmm]; split <;> omega)
      rw [c37] at g1
      obtain ⟨kind, n, s, c, h⟩ := open_op g1 g2
      exact ⟨x, kind, n, s, c, rfl, h⟩
  clear hA0 hval0 hsz0 hsz
  refine (Buf.Plays_walk a0 a1 len1 cap1 W w0 wy.1 wy.2).mono fun e W' ⟨he, bel⟩ => ?_
  subst he
  exact ⟨_, rfl, _, _, _, [], _, [], hW', trodAll_mk1 (shut_bool Try.underlying4 _), (trodAll_cons_mk (shut_int Try.underlying3 w0) (trodAll_cons_mk (Below.trod laidOut (by kernel_rfl) (of_decide_eq_true (by kernel_rfl)) k1 bel lt1) trodAll_mk0)), rfl, bel.frame _, fun h => by cases h⟩
theorem over : Rows.bufferPlaysRow.holds Try.pinned (OpenSpec.ofChange Rows.bufferPlaysSpec) :=
  OpenClaim.holds_of_wide 5 Try.f5 rfl rfl rfl rfl rfl rfl rfl ⟨rfl, rfl, rfl, rfl, rfl⟩ rfl rfl rfl rfl rfl (by kernel_rfl) Try.func5 (by kernel_rfl)
    (of_decide_eq_true (by kernel_rfl)) (by unfold Func.isWrapper; first | (rw [if_pos (by decide +kernel)]; kernel_rfl) | (rw [if_neg (by decide +kernel)]; exact ⟨rfl, rfl⟩))
    (fun os started H enc _ => lifted os started H enc)
theorem proved : Rows.BufferPlaysSaid := over
#print axioms proved
end Go.Proofs.Ytcpkmidgpbhpkaa.bufferPlays
namespace Go.Proofs.Ytcpkmidgpbhpkaa
/-- The row, under a short name, for the claim. -/
theorem bufferPlays_holds : Rows.BufferPlaysSaid := bufferPlays.proved
end Go.Proofs.Ytcpkmidgpbhpkaa
