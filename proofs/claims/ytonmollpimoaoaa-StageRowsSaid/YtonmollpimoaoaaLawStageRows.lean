/- The row of the law StageRows: at all rows, whatever the other value, the law answers true, and its arguments read behind it as before. No condition. -/
import Derived.Test.YtonmollpimoaoaaRows
import Derived.Test.YtonmollpimoaoaaSy
import Derived.WalkKit
import Derived.ProofKit
import Derived.OpenShut
import Derived.ShutString
import Derived.ChangeOld
import Derived.Below
import Derived.SizedLaws
import Derived.Deep.Slices
import Derived.ChangeArms
import Derived.Test.YtonmollpimoaoaaWSized
namespace Go.Proofs.Ytonmollpimoaoaa.stageRows
open Go.ChangeShapes Go.WideShapes Go.ChangeAt Go.RowKit Go.Proofs.YtonmollpimoaoaaW.PrintWords Go.Proofs.Ytonmollpimoaoaa.PStageTells
open Go.ChangeMaps (open_string shut_string)
set_option linter.unusedVariables false
theorem own : ownKnob Try.prog.godebug = none := by kernel_rfl
theorem laidOut : laidOutB Try.prog = true := by kernel_rfl
theorem c21 : Try.prog.cellsOf 21 = 1 := by kernel_rfl
theorem c5 : Try.prog.cellsOf 5 = 1 := by kernel_rfl
theorem c35 : Try.prog.cellsOf 35 = 3 := by kernel_rfl
theorem list3 {α : Type} {l : List α} (h : l.length = 3) : ∃ c0 c1 c2, l = [c0, c1, c2] := by
  match l, h with
  | [c0, c1, c2], _ => exact ⟨c0, c1, c2, rfl⟩
theorem rng32 {a : Int} (h : (Lit.int .i32 a).wf = true) : -2147483648 ≤ a ∧ a ≤ 2147483647 := by
  simp [Lit.wf, IntKind.min, IntKind.max, IntKind.signed, IntKind.bits] at h
  omega
theorem rng8 {a : Int} (h : (Lit.int .u8 a).wf = true) : 0 ≤ a ∧ a ≤ 255 := by
  simp [Lit.wf, IntKind.min, IntKind.max, IntKind.signed, IntKind.bits] at h
  omega
theorem list_of {α : Type} {P : Nat → α → Prop} : ∀ n : Nat, (∀ j, j < n → ∃ x, P j x) → ∃ l : List α, l.length = n ∧ ∀ (j : Nat) (x : α), l[j]? = some x → P j x
  | 0, _ => ⟨[], rfl, fun j x h => by simp at h⟩
  | n + 1, h => by
    obtain ⟨l, hl, hp⟩ := list_of n (fun j hj => h j (by omega))
    obtain ⟨x, hx⟩ := h n (by omega)
    refine ⟨l ++ [x], by simp [hl], fun j y hy => ?_⟩
    rcases Nat.lt_or_ge j n with hj | hj
    · rw [List.getElem?_append_left (by omega)] at hy
      exact hp j y hy
    · rw [List.getElem?_append_right (by omega), hl] at hy
      have : j - n = 0 := by
        rcases Nat.eq_zero_or_pos (j - n) with e | e
        · exact e
        · rw [List.getElem?_eq_none (by simp; omega)] at hy; cases hy
      rw [this] at hy
      cases hy
      rw [show j = n by omega]
      exact hx
section
variable {H : Type} {enc : TypeId × Value → H} {w : World} {base : Nat} {spare : Nat → Bool} {held : Bool}
/-- An element of the slice, opened. -/
theorem open_row {x : Addr} {n : Nat} {cs : List Value} {y : DataW H × List MemPlace} {b0 : Nat} (hc : w.cells? b0 x 3 = some cs) (h : DataW.trod enc Try.prog w base spare held n 35 cs = some y) :
    ∃ r : S35, Sa.Ok35 r ∧ w.cell? x = some (.int .i32 r.f0) ∧ w.cell? ⟨x.block, x.off + 1, none⟩ = some (.int .i32 r.f1) ∧ w.cell? ⟨x.block, x.off + 2, none⟩ = some (.int .u8 r.f2) := by
  obtain ⟨_, hlen, hcell⟩ := World.cells?_some hc
  obtain ⟨e0, e1, e2, rfl⟩ := list3 hlen
  obtain ⟨xs, k, _, hx, hl, hlen2, hfs⟩ := DataW.trod_struct Try.underlying35 h
  obtain ⟨y0, y1, y2, rfl⟩ := list3 hlen2
  have h0 : DataW.trod enc Try.prog w base spare held k 21 [e0] = some y0 := by simpa [c21, c5, Value.cells] using hfs 0 _ rfl
  have h1 : DataW.trod enc Try.prog w base spare held k 21 [e1] = some y1 := by simpa [c21, c5, Value.cells] using hfs 1 _ rfl
  have h2 : DataW.trod enc Try.prog w base spare held k 5 [e2] = some y2 := by simpa [c21, c5, Value.cells] using hfs 2 _ rfl
  obtain ⟨a, q0, rfl, m0⟩ := DataW.trod_int Try.underlying21 h0
  obtain ⟨b, q1, rfl, m1⟩ := DataW.trod_int Try.underlying21 h1
  obtain ⟨c, q2, rfl, m2⟩ := DataW.trod_int Try.underlying5 h2
  simp at q0 q1 q2
  subst q0 q1 q2
  have k0 := hcell 0 (by omega)
  have k1 := hcell 1 (by omega)
  have k2 := hcell 2 (by omega)
  have hs : x.spot = none := by
    rw [show x.add 0 = x from rfl] at k0
    simp only [World.cell?] at k0
    split at k0
    · split at k0
      · simp at k0
      · rename_i hh
        simpa using hh
    · simp at k0
  exact ⟨⟨a, b, c⟩, ⟨rng32 m0, rng32 m1, rng8 m2⟩, k0, k1, k2⟩
end
set_option maxRecDepth 100000 in
theorem lifted (os : Os) (started : os.Started) (H : Type) (enc : TypeId × Value → H) :
    ReturnsInHanded {} Try.checked os 5 .any (Rows.stageRowsSpec.pre6 enc Try.prog Try.f5 Rows.stageRowsRow.domain false) (Rows.stageRowsSpec.post enc Try.prog Try.f5 false true false false) := by
  refine returnsInHanded_of_change_sized (C := Try.checked) own started (by kernel_rfl) Try.func5
    (ChangeSpec.witness6 (enc := enc) (C := Try.checked) false ⟨#[], #[.slice none 0 0, .int .u8 0], []⟩ 8 (by kernel_rfl) (by kernel_rfl) (by kernel_rfl) (by kernel_rfl)) ?_
  intro W base args ds gs before hval0 hW hcnd hsz0 _
  have hval : ∀ (j : Nat) t v, Try.f5.params[j]? = some t → args[j]? = some v → Value.okWide Try.prog W .any base t v := hval0
  have hW' := hW
  obtain ⟨p, q, hA0, hV, rfl, hfz, hnd⟩ := hW
  have hA : DataW.TrodAll enc Try.prog W 0 (fun _ => true) true Try.f5.params.toList args.toList ds p := hA0
  rw [Try.params5] at hA hval
  obtain ⟨v0, vs0, d0, ds0, p0, q0, hargs, rfl, rfl, h0, r0⟩ := trodAll_cons hA
  obtain ⟨v1, vs1, d1, ds1, p1, q1, rfl, rfl, rfl, h1, r1⟩ := trodAll_cons r0
  obtain ⟨rfl, rfl, rfl⟩ := trodAll_nil r1
  obtain rfl : args = #[v0, v1] := by cases args; simp_all
  obtain ⟨rfl, rfl⟩ := trodVars_none hV
  obtain ⟨a0, len0, cap0, rfl⟩ := okWide_slice Try.underlying22 (hval 0 22 v0 rfl rfl)
  obtain ⟨o, rfl, rfl, rfl, wo⟩ := open_int Try.underlying5 (hval 1 5 v1 rfl rfl) h1
  have k0 := h0
  have lt0 : ∀ x ∈ p0, x.block < W.heap.size := by obtain ⟨m, hm⟩ := k0; exact DataW.trod_lt m _ _ _ hm
  have w0 : ∃ ls : List S35, ls.length = len0 ∧ Kd.C k35 W a0 ls.length ls ∧ ls.length ≤ cap0 ∧ ∀ x ∈ ls, Sa.Ok35 x := by
    obtain ⟨fuel, hf⟩ := h0
    rcases Go.Deep.open_slice Try.underlying22 hf with ⟨hcs, _⟩ | ⟨x, l, c, m, n, D, Pl, hcs, _, hl, hm, hmm, _, hx⟩
    · simp [Value.cells] at hcs
      obtain ⟨rfl, rfl, rfl⟩ := hcs
      exact ⟨[], rfl, ⟨rfl, Nat.zero_le _, fun hp => absurd hp (Nat.lt_irrefl _)⟩, Nat.zero_le _, fun x hx => by cases hx⟩
    · simp [Value.cells] at hcs
      obtain ⟨rfl, rfl, rfl⟩ := hcs
      obtain ⟨ls, hls, hP⟩ := list_of (P := fun j (r : S35) => Sa.Ok35 r ∧ W.cell? (x.add (j * 3)) = some (.int .i32 r.f0) ∧ W.cell? ⟨(x.add (j * 3)).block, (x.add (j * 3)).off + 1, none⟩ = some (.int .i32 r.f1) ∧ W.cell? ⟨(x.add (j * 3)).block, (x.add (j * 3)).off + 2, none⟩ = some (.int .u8 r.f2)) len0 (fun j hj => by
        obtain ⟨cs', g1, g2⟩ := hx j (by rw [hmm]; split <;> omega)
        rw [c35] at g1
        exact open_row g1 g2)
      refine ⟨ls, hls, ⟨rfl, by rw [hls]; have : maxLen = 9223372036854775807 := rfl; omega, fun _ => ⟨x, rfl, fun j r hj => ?_⟩⟩, by rw [hls]; exact hl, fun r hr => ?_⟩
      · obtain ⟨_, e0, e1, e2⟩ := hP j r hj
        refine ⟨[.int .i32 r.f0, .int .i32 r.f1, .int .u8 r.f2], rfl, k35_mk W r, fun i u hu => ?_⟩
        match i, hu with
        | 0, hu => cases hu; exact e0
        | 1, hu => cases hu; show W.cell? (x.add (j * 3 + 1)) = _; rw [add_field _ _ 1 (by omega)]; exact e1
        | 2, hu => cases hu; show W.cell? (x.add (j * 3 + 2)) = _; rw [add_field _ _ 2 (by omega)]; exact e2
        | i + 3, hu => simp at hu
      · obtain ⟨j, hj⟩ := List.mem_iff_getElem?.1 hr
        exact (hP j r hj).1
  obtain ⟨ls, rfl, hC, hcap, hok⟩ := w0
  clear hA0 hval0 hsz0
  refine (Sa.srows_walk W a0 cap0 ls o hC hcap hok (rng8 wo)).mono fun e W' ⟨he, bel⟩ => ?_
  subst he
  exact ⟨_, rfl, _, _, _, [], _, [], hW', trodAll_mk1 (shut_bool Try.underlying4 _), (trodAll_cons_mk (Below.trod laidOut (by kernel_rfl) (of_decide_eq_true (by kernel_rfl)) k0 bel lt0) (trodAll_cons_mk (shut_int Try.underlying5 wo) trodAll_mk0)), rfl, bel.frame _, fun h => by cases h⟩
theorem over : Rows.stageRowsRow.holds Try.pinned (OpenSpec.ofChange Rows.stageRowsSpec) :=
  OpenClaim.holds_of_wide 5 Try.f5 rfl rfl rfl rfl rfl rfl rfl ⟨rfl, rfl, rfl, rfl, rfl⟩ rfl rfl rfl rfl rfl (by kernel_rfl) Try.func5 (by kernel_rfl)
    (of_decide_eq_true (by kernel_rfl)) (by unfold Func.isWrapper; first | (rw [if_pos (by decide +kernel)]; kernel_rfl) | (rw [if_neg (by decide +kernel)]; exact ⟨rfl, rfl⟩))
    (fun os started H enc _ => lifted os started H enc)
theorem proved : Rows.StageRowsSaid := over
#print axioms proved
end Go.Proofs.Ytonmollpimoaoaa.stageRows
namespace Go.Proofs.Ytonmollpimoaoaa
/-- The row, under a short name, for the claim. -/
theorem stageRows_holds : Rows.StageRowsSaid := stageRows.proved
end Go.Proofs.Ytonmollpimoaoaa
