/- The document's table: singles, pairs0 .. pairs6, All. -/
import Derived.Test.YtejkfochijgkdaaProg
import Derived.Test.YtejkfochijgkdaaWWords
import Derived.Test.YtejkfochijgkdaaWLast
import Derived.Test.YtejkfochijgkdaaWMore
import Derived.Test.YtejkfochijgkdaaWSized
import Derived.WalkKit
namespace Go.Proofs.Ytejkfochijgkdaa.Pt
open Go.RowKit Go.Proofs.YtejkfochijgkdaaW.PrintWords Go.Proofs.YtejkfochijgkdaaW.PrintLast Go.Proofs.YtejkfochijgkdaaW.PrintMore
set_option linter.unusedVariables false
set_option linter.unusedSimpArgs false
abbrev T3 : Type := Int × Int × Int
def k53 : Kd T3 := Kd.pair (Kd.int .i64) (Kd.pair (Kd.int .i64) (Kd.int .i64))
theorem k53_open {w : World} {x : T3} {cs : List Value} (h : k53.K w x cs) : cs = [.int .i64 x.1, .int .i64 x.2.1, .int .i64 x.2.2] := by
  obtain ⟨_, _, rfl, rfl, ⟨_, _, rfl, rfl, rfl⟩⟩ := h
  rfl
theorem k53_mkM (w : World) (base : Nat) (ok : Nat → Prop) (x : T3) : k53.M w base ok x [.int .i64 x.1, .int .i64 x.2.1, .int .i64 x.2.2] := ⟨[.int .i64 x.1], [.int .i64 x.2.1, .int .i64 x.2.2], rfl, rfl, ⟨[.int .i64 x.2.1], [.int .i64 x.2.2], rfl, rfl, rfl⟩⟩
def z53 : T3 := (0, 0, 0)
def rd53 (xs : List T3) (i : Int) : T3 := xs.getD i.toNat z53
theorem at53 {w : World} {A : Option Addr} {n : Nat} {xs : List T3} (h : Kd.C k53 w A n xs) (i : Int) (h0 : 0 ≤ i) (h1 : i < n) : ∃ ad , A = some ad ∧ w.cell? (ad.add (i.toNat * 3)) = some (.int .i64 (rd53 xs i).1) ∧ w.cell? ⟨(ad.add (i.toNat * 3)).block, (ad.add (i.toNat * 3)).off + 1, none⟩ = some (.int .i64 (rd53 xs i).2.1) ∧ w.cell? ⟨(ad.add (i.toNat * 3)).block, (ad.add (i.toNat * 3)).off + 2, none⟩ = some (.int .i64 (rd53 xs i).2.2) := by
  obtain ⟨ad, c, e, _, hK, hc0⟩ := Kd.C_get h z53 i h0 h1
  have hc : ∀ j u, c[j]? = some u → w.cell? (ad.add (i.toNat * 3 + j)) = some u := hc0
  obtain rfl := k53_open hK
  exact ⟨ad, e, hc 0 _ rfl, by rw [← add_field _ _ 1 (by omega)]; exact hc 1 _ rfl, by rw [← add_field _ _ 2 (by omega)]; exact hc 2 _ rfl⟩
/-- The cells of a table. -/
def fl : List T3 → List Value
  | [] => []
  | x :: t => .int .i64 x.1 :: .int .i64 x.2.1 :: .int .i64 x.2.2 :: fl t
theorem fl_len (t : List T3) : (fl t).length = t.length * 3 := by
  induction t with
  | nil => rfl
  | cons x t ih => simp only [fl, List.length_cons, ih]; omega
theorem fl_reps (w : World) (base : Nat) (ok : Nat → Prop) (t : List T3) : Reps (k53.M w base ok) 3 t (fl t) := by
  refine ⟨fl_len t, ?_⟩
  induction t with
  | nil => intro j p hj; simp at hj
  | cons x t ih =>
    intro j p hj
    cases j with
    | zero =>
      simp only [List.getElem?_cons_zero, Option.some.injEq] at hj
      subst hj
      simpa [fl] using k53_mkM w base ok x
    | succ j =>
      simp only [List.getElem?_cons_succ] at hj
      have := ih j p hj
      rw [show (j + 1) * 3 = j * 3 + 1 + 1 + 1 by omega]
      simpa [fl] using this
theorem fl_R (w : World) (t : List T3) (ht : t.length ≤ 1000) : k53.R 53 (w.alloc (.cells (fl t).toArray 53)) w.heap.size (fun _ => True) (.slice (some ⟨w.heap.size, 0, none⟩) t.length t.length) t := by
  refine ⟨fun _ _ => trivial, fl t, ?_, fl_reps _ _ _ t⟩
  have h2 := World.ownsRow_lit (base := w.heap.size) (e := 53) (size := 3) w (fl t).toArray t.length (Nat.le_refl _) (by unfold maxLen; omega) (by simpa using fl_len t)
  simp only [List.toList_toArray] at h2
  exact h2
/-- The table that a function's text builds. -/
def opsOf : Code → List (Array Oper)
  | .region _ ops _ => [ops]
  | .seq a b => opsOf a ++ opsOf b
  | _ => []
def intOf : Operand → Int
  | .const (.int _ x) => x
  | _ => 0
def rowOf (o : Oper) : List T3 := match o.op with
  | .build _ ps => (match ps.toList with
    | [(_, a), (_, b), (_, c)] => [(intOf a, intOf b, intOf c)]
    | _ => [])
  | _ => []
def tabOf (f : Func) : List T3 := match f.body with
  | some c => (opsOf c).flatMap fun ops => ops.toList.flatMap rowOf
  | none => []
end Go.Proofs.Ytejkfochijgkdaa.Pt
