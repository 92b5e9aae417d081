/- dev: pair's methods -/
import Derived.Test.YtejkfochijgkdaaProg
import Derived.Test.YtejkfochijgkdaaWWords
import Derived.Test.YtejkfochijgkdaaWLast
import Derived.Test.YtejkfochijgkdaaWMore
import Derived.Test.YtejkfochijgkdaaWSized
import Derived.Test.YtejkfochijgkdaaMapF
import Derived.WalkKit
namespace Go.Proofs.Ytejkfochijgkdaa.Pr
open Go.RowKit Go.Maps Go.Proofs.Ytejkfochijgkdaa.MapF Go.Proofs.YtejkfochijgkdaaW.PrintWords Go.Proofs.YtejkfochijgkdaaW.PrintLast Go.Proofs.YtejkfochijgkdaaW.PrintMore
set_option linter.unusedVariables false
set_option linter.unusedSimpArgs false
theorem laidOut : laidOutB Try.prog = true := by kernel_rfl
theorem row28 : (28 : TypeId) < Try.prog.types.size := of_decide_eq_true (by kernel_rfl)
theorem cells28 : Try.prog.cellsOf 28 = 2 := by kernel_rfl
theorem cells21 : Try.prog.cellsOf 21 = 1 := by kernel_rfl
theorem wide28 : (match Try.prog.underlying 28 with | some (.array _ _) | some (.struct _) => true | _ => false) = true := by rw [Try.underlying28]
theorem K1 : Keyed Try.prog 21 := int_keyed Try.underlying21
theorem K2 : Keyed Try.prog 28 := Keyed.of_law (deep_law_laid laidOut (m := 2) (by omega) row28 (by kernel_rfl) wide28)
theorem zero28 (w : World) : (zeroValue 28).run Try.prog w = .ok (.agg #[.int .i32 0, .int .i32 0]) w := by kernel_rfl
theorem zero21 (w : World) : (zeroValue 21).run Try.prog w = .ok (.int .i32 0) w := by kernel_rfl
theorem zero3 (w : World) : (zeroValue 3).run Try.prog w = .ok (.int .i64 0) w := by kernel_rfl
theorem type28 : Try.prog.keyType 28 = true := by kernel_rfl
theorem key28 {a b : Int} (ha : (Lit.int .i32 a).wf = true) (hb : (Lit.int .i32 b).wf = true) : ∃ kl, keyOf Try.prog 28 (.agg #[.int .i32 a, .int .i32 b]) = some kl := by
  obtain ⟨d, hd⟩ : ∃ d, Try.prog.types.size = d + 1 := ⟨Try.prog.types.size - 1, (Nat.succ_pred_eq_of_pos (Nat.lt_of_le_of_lt (Nat.zero_le _) row28)).symm⟩
  unfold keyOf
  rw [Try.underlying28]
  simp only
  have hf : (Value.agg #[.int .i32 a, .int .i32 b]).formed Try.prog 28 = true := by simp [Value.formed, Try.underlying28, cells28]
  rw [type28, hf, hd]
  simp [Program.keyLits, Try.underlying28, Try.underlying21, cells28, cells21, Value.cells, ha, hb, List.range_succ]
theorem key21 {a : Int} (ha : (Lit.int .i32 a).wf = true) : keyOf Try.prog 21 (.int .i32 a) = some (.int .i32 a) := keyOf_int_mk Try.underlying21 ha
/-- The tables as functions of values. -/
def fD (dn : Int → Option (Int × Int)) : Value → Option Value
  | .int .i32 r => (dn r).map fun p => .agg #[.int .i32 p.1, .int .i32 p.2]
  | _ => none
def fU (up : Int → Int → Option Int) : Value → Option Value
  | .agg cs => (match cs.toList with
    | [.int .i32 a, .int .i32 b] => (up a b).map fun r => .int .i32 r
    | _ => none)
  | _ => none
def fS (sec : Int → Option Int) : Value → Option Value
  | .int .i32 r => (sec r).map fun c => .int .i64 c
  | _ => none
/-- What stands behind a *Pairs. -/
structure Ps (w : World) (g b1 b2 b3 n m : Nat) (dn : Int → Option (Int × Int)) (up : Int → Int → Option Int) (sec : Int → Option Int) : Prop where
  hd : w.heap[g]? = some (.cells #[.map (some b1), .map (some b2), .map (some b3)] 50)
  m1 : MapF w Try.prog 21 b1 n m (fD dn)
  m2 : ∃ m2, MapF w Try.prog 28 b2 n m2 (fU up)
  m3 : ∃ m3, MapF w Try.prog 21 b3 n m3 (fS sec)
/-- What Down tells. -/
def downV (dn : Int → Option (Int × Int)) (r : Int) : Int × Int × Int := match dn r with
  | none => (0, 0, 0)
  | some p => if p.2 = 0 then (p.1, 0, 1) else (p.1, p.2, 2)
def exclV (dn : Int → Option (Int × Int)) (r : Int) : Bool := r == 836 || (decide (2392 ≤ r) && decide (r ≤ 2399)) || (match dn r with
  | none => false
  | some p => p.2 == 0)
section
variable {w : World} {g b1 b2 b3 n m : Nat} {dn : Int → Option (Int × Int)} {up : Int → Int → Option Int} {sec : Int → Option Int}
set_option maxHeartbeats 1000000 in
theorem down_calls (h : Ps w g b1 b2 b3 n m dn up sec) (r : Int) (hr : (Lit.int .i32 r).wf = true) :
    Calls Try.prog 12 #[.pointer (some ⟨g, 0, none⟩), .int .i32 r] w fun e w' => e = .returned (.tuple #[.int .i32 (downV dn r).1, .int .i32 (downV dn r).2.1, .int .i64 (downV dn r).2.2]) ∧ Below w.heap.size w w' := by
  have hl := h.m1.look K1 Try.underlying46 (zero28 w) (key21 hr)
  have c0 := blk_cell h.hd 0
  have f : fD dn (.int .i32 r) = (dn r).map fun p => .agg #[.int .i32 p.1, .int .i32 p.2] := rfl
  rw [f] at hl
  clear f
  unfold downV
  cases hd : dn r with
  | none =>
    rw [hd] at hl
    simp only [Option.map_none, Option.getD_none, Option.isSome_none] at hl
    go_enter Try.func12, Try.ntmps12
    go_wp2
    go_ret3
    exact ⟨rfl, below_alloc (Below.refl _ _) _⟩
  | some p =>
    obtain ⟨a, b⟩ := p
    rw [hd] at hl
    simp only [Option.map_some, Option.getD_some, Option.isSome_some] at hl
    by_cases hb : b = 0
    · subst hb
      go_enter Try.func12, Try.ntmps12
      go_wp2
      go_ret3
      exact ⟨rfl, below_alloc (Below.refl _ _) _⟩
    · go_enter Try.func12, Try.ntmps12
      go_wp2
      go_quiet (fail)
      go_wp2
      go_ret3
      exact ⟨by simp [hb], pw_below_drewN (below_alloc (Below.refl _ _) _) _⟩
set_option maxHeartbeats 1000000 in
theorem up_calls (h : Ps w g b1 b2 b3 n m dn up sec) (a b : Int) (ha : (Lit.int .i32 a).wf = true) (hb : (Lit.int .i32 b).wf = true) :
    Calls Try.prog 10 #[.pointer (some ⟨g, 0, none⟩), .int .i32 a, .int .i32 b] w fun e w' => e = .returned (.tuple #[.int .i32 ((up a b).getD 0), .bool (up a b).isSome]) ∧ Below w.heap.size w w' := by
  obtain ⟨m2, h2⟩ := h.m2
  obtain ⟨kl, hk⟩ := key28 ha hb
  have hl := h2.look K2 Try.underlying47 (zero21 w) hk
  have c1 := blk_cell h.hd 1
  have f : fU up (.agg #[.int .i32 a, .int .i32 b]) = (up a b).map fun r => .int .i32 r := rfl
  rw [f] at hl
  clear f hk
  cases hd : up a b with
  | none =>
    rw [hd] at hl
    simp only [Option.map_none, Option.getD_none, Option.isSome_none] at hl
    go_enter Try.func10, Try.ntmps10
    go_wp2
    repeat (go_quiet (fail); try go_wp2)
    go_ret2
    exact ⟨rfl, by repeat (first | exact Below.refl _ _ | apply pw_below_drewN | apply below_alloc)⟩
  | some p =>
    rw [hd] at hl
    simp only [Option.map_some, Option.getD_some, Option.isSome_some] at hl
    go_enter Try.func10, Try.ntmps10
    go_wp2
    repeat (go_quiet (fail); try go_wp2)
    go_ret2
    exact ⟨rfl, by repeat (first | exact Below.refl _ _ | apply pw_below_drewN | apply below_alloc)⟩
set_option maxHeartbeats 2000000 in
theorem excl_calls (h : Ps w g b1 b2 b3 n m dn up sec) (r : Int) (hr : (Lit.int .i32 r).wf = true) :
    Calls Try.prog 13 #[.pointer (some ⟨g, 0, none⟩), .int .i32 r] w fun e w' => e = .returned (.bool (exclV dn r)) ∧ Below w.heap.size w w' := by
  have hl := h.m1.look K1 Try.underlying46 (zero28 w) (key21 hr)
  have c0 := blk_cell h.hd 0
  have f : fD dn (.int .i32 r) = (dn r).map fun p => .agg #[.int .i32 p.1, .int .i32 p.2] := rfl
  rw [f] at hl
  clear f
  by_cases h1 : r = 836
  · subst h1
    rw [show exclV dn 836 = true by simp [exclV]]
    go_enter Try.func13, Try.ntmps13
    go_wp2
    go_ret
    exact ⟨rfl, Below.refl _ _⟩
  by_cases h2 : 2392 ≤ r ∧ r ≤ 2399
  · have h3 := h2.1
    have h4 := h2.2
    rw [show exclV dn r = true by simp [exclV, h3, h4]]
    clear h2
    go_enter Try.func13, Try.ntmps13
    go_wp2
    go_ret
    exact ⟨rfl, Below.refl _ _⟩
  have e1 : (r == 836 || (decide (2392 ≤ r) && decide (r ≤ 2399))) = false := by
    simp only [Bool.or_eq_false_iff, beq_eq_false_iff_ne, Bool.and_eq_false_iff, decide_eq_false_iff_not]
    exact ⟨h1, by omega⟩
  have e2 : exclV dn r = (match dn r with
  | none => false
  | some p => p.2 == 0) := by unfold exclV; rw [e1, Bool.false_or]
  rw [e2]
  clear e1 e2
  cases hd : dn r with
  | none =>
    rw [hd] at hl
    simp only [Option.map_none, Option.getD_none, Option.isSome_none] at hl
    by_cases h3 : 2392 ≤ r
    · have h4 : ¬ r ≤ 2399 := fun h => h2 ⟨h3, h⟩
      clear h2
      go_enter Try.func13, Try.ntmps13
      go_wp2
      go_ret
      exact ⟨rfl, below_alloc (Below.refl _ _) _⟩
    · clear h2
      go_enter Try.func13, Try.ntmps13
      go_wp2
      go_ret
      exact ⟨rfl, below_alloc (Below.refl _ _) _⟩
  | some p =>
    obtain ⟨a, b⟩ := p
    rw [hd] at hl
    simp only [Option.map_some, Option.getD_some, Option.isSome_some] at hl
    by_cases h3 : 2392 ≤ r
    · have h4 : ¬ r ≤ 2399 := fun h => h2 ⟨h3, h⟩
      clear h2
      go_enter Try.func13, Try.ntmps13
      go_wp2
      go_ret
      exact ⟨rfl, below_alloc (Below.refl _ _) _⟩
    · clear h2
      go_enter Try.func13, Try.ntmps13
      go_wp2
      go_ret
      exact ⟨rfl, below_alloc (Below.refl _ _) _⟩
end
end Go.Proofs.Ytejkfochijgkdaa.Pr
