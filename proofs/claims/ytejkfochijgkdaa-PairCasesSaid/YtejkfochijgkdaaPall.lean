/- The document's whole table. -/
import Derived.Test.YtejkfochijgkdaaPt1
namespace Go.Proofs.Ytejkfochijgkdaa.Pt
open Go.RowKit Go.Proofs.YtejkfochijgkdaaW.PrintWords Go.Proofs.YtejkfochijgkdaaW.PrintLast Go.Proofs.YtejkfochijgkdaaW.PrintMore
set_option linter.unusedVariables false
set_option linter.unusedSimpArgs false
theorem info53 : (Try.prog.info? 53).map (fun i => (i.zero, i.size, i.bytes)) = some (some (.agg #[.int .i64 0, .int .i64 0, .int .i64 0]), 3, 24) := by kernel_rfl
noncomputable def tb (j : Nat) : List T3 := match j with
  | 0 => tabOf Try.f24
  | 1 => tabOf Try.f25
  | 2 => tabOf Try.f26
  | 3 => tabOf Try.f27
  | 4 => tabOf Try.f28
  | 5 => tabOf Try.f29
  | 6 => tabOf Try.f30
  | _ => tabOf Try.f31
theorem len0 : (tb 0).length = 10 := by decide +kernel
theorem len1 : (tb 1).length = 60 := by decide +kernel
theorem len2 : (tb 2).length = 60 := by decide +kernel
theorem len3 : (tb 3).length = 60 := by decide +kernel
theorem len4 : (tb 4).length = 60 := by decide +kernel
theorem len5 : (tb 5).length = 60 := by decide +kernel
theorem len6 : (tb 6).length = 59 := by decide +kernel
theorem len7 : (tb 7).length = 26 := by decide +kernel
/-- A part of the table, as a row. -/
theorem part_row {f : FuncId} {n : Nat} {t : List T3} (hl : t.length = n) (hn : n ≤ 1000)
    (h : ∀ w, Calls Try.prog f #[] w fun e w' => e = .returned (.slice (some ⟨w.heap.size, 0, none⟩) n n) ∧ w' = w.alloc (.cells (fl t).toArray 53)) (w : World) :
    Calls Try.prog f #[] w fun e w' => ∃ A, e = .returned (.slice A n n) ∧ Kd.C k53 w' A n t ∧ Kd.R k53 53 w' w.heap.size (fun _ => True) (.slice A n n) t ∧ Below w.heap.size w w' := by
  refine (h w).mono ?_
  rintro e w' ⟨rfl, rfl⟩
  have hR := fl_R w t (by omega)
  rw [hl] at hR
  refine ⟨_, rfl, ?_, hR, below_alloc (Below.refl _ _) _⟩
  have := (Kd.R_reads' hR).2.2
  rw [hl] at this
  exact this

noncomputable def acc : Nat → List T3
  | 0 => tb 0
  | j + 1 => acc j ++ tb (j + 1)
theorem acc_len : ∀ j, j < 8 → (acc j).length ≤ 1000 := by decide +kernel
theorem acc_len7 : (acc 7).length = 395 := by decide +kernel
theorem p0 (w : World) : Calls Try.prog 24 #[] w fun e w' => ∃ A, e = .returned (.slice A 10 10) ∧ Kd.C k53 w' A 10 (tb 0) ∧ Kd.R k53 53 w' w.heap.size (fun _ => True) (.slice A 10 10) (tb 0) ∧ Below w.heap.size w w' := part_row len0 (by decide) singles_calls w
theorem p1 (w : World) : Calls Try.prog 25 #[] w fun e w' => ∃ A, e = .returned (.slice A 60 60) ∧ Kd.C k53 w' A 60 (tb 1) ∧ Kd.R k53 53 w' w.heap.size (fun _ => True) (.slice A 60 60) (tb 1) ∧ Below w.heap.size w w' := part_row len1 (by decide) pairs0_calls w
theorem p2 (w : World) : Calls Try.prog 26 #[] w fun e w' => ∃ A, e = .returned (.slice A 60 60) ∧ Kd.C k53 w' A 60 (tb 2) ∧ Kd.R k53 53 w' w.heap.size (fun _ => True) (.slice A 60 60) (tb 2) ∧ Below w.heap.size w w' := part_row len2 (by decide) pairs1_calls w
theorem p3 (w : World) : Calls Try.prog 27 #[] w fun e w' => ∃ A, e = .returned (.slice A 60 60) ∧ Kd.C k53 w' A 60 (tb 3) ∧ Kd.R k53 53 w' w.heap.size (fun _ => True) (.slice A 60 60) (tb 3) ∧ Below w.heap.size w w' := part_row len3 (by decide) pairs2_calls w
theorem p4 (w : World) : Calls Try.prog 28 #[] w fun e w' => ∃ A, e = .returned (.slice A 60 60) ∧ Kd.C k53 w' A 60 (tb 4) ∧ Kd.R k53 53 w' w.heap.size (fun _ => True) (.slice A 60 60) (tb 4) ∧ Below w.heap.size w w' := part_row len4 (by decide) pairs3_calls w
theorem p5 (w : World) : Calls Try.prog 29 #[] w fun e w' => ∃ A, e = .returned (.slice A 60 60) ∧ Kd.C k53 w' A 60 (tb 5) ∧ Kd.R k53 53 w' w.heap.size (fun _ => True) (.slice A 60 60) (tb 5) ∧ Below w.heap.size w w' := part_row len5 (by decide) pairs4_calls w
theorem p6 (w : World) : Calls Try.prog 30 #[] w fun e w' => ∃ A, e = .returned (.slice A 59 59) ∧ Kd.C k53 w' A 59 (tb 6) ∧ Kd.R k53 53 w' w.heap.size (fun _ => True) (.slice A 59 59) (tb 6) ∧ Below w.heap.size w w' := part_row len6 (by decide) pairs5_calls w
theorem p7 (w : World) : Calls Try.prog 31 #[] w fun e w' => ∃ A, e = .returned (.slice A 26 26) ∧ Kd.C k53 w' A 26 (tb 7) ∧ Kd.R k53 53 w' w.heap.size (fun _ => True) (.slice A 26 26) (tb 7) ∧ Below w.heap.size w w' := part_row len7 (by decide) pairs6_calls w
attribute [local irreducible] tb
theorem acc_row {j : Nat} {w1 : World} {b : Nat} {v : Value} (h : Kd.R k53 53 w1 b (fun _ => True) v (acc j ++ tb (j + 1))) : Kd.R k53 53 w1 b (fun _ => True) v (acc (j + 1)) := h
set_option maxHeartbeats 4000000 in
theorem all_calls (w : World) : Calls Try.prog 9 #[] w fun e w' => ∃ v, e = .returned v ∧ Kd.R k53 53 w' w.heap.size (fun _ => True) v (acc 7) ∧ Below w.heap.size w w' := by
  have hu53 := info53
  go_enter Try.func9, Try.ntmps9
  go_wp2_with (first
    | (go_at_call 24; refine (p0 _).mono ?_; rintro e w1 ⟨A1, rfl, hc, hr, hb⟩; have HO := Aside0.mk (show Kd.R k53 53 w1 w.heap.size (fun _ => True) _ (acc 0) from hr); have HB := Aside0.mk hb; clear hc hr hb)
    | (go_at_call 25; refine (p1 _).mono ?_; rintro e w1 ⟨A1, rfl, hc, hr, hb⟩; have HC := Aside0.mk hc; have HO := Aside0.mk (Kd.R_below HO.out hb); have HB := Aside0.mk (below_then HB.out HB.out.size hb); clear hc hr hb)
    | ((with_reducible refine gate_builtin (b := .append) (xs := #[.tmp 3, .tmp 4]) rfl ?_); at_builtin; refine Kd.R_append_rows k53 (w0 := w) w.heap.size rfl (.tmp 3) (.tmp 4) 26 53 _ 24 rfl Try.underlying26 info53 rfl (by decide) (by omega) _ (acc 0) (tb 1) _ _ _ (fun _ => True) (fun _ => False) rfl rfl HO.out HC.out (fun _ _ h => h) (fun _ h => h.elim) (fun _ _ => trivial) HB.out HB.out.size (by have := acc_len 0 (by decide); omega) ?_; intro v1 w1 hr hb hg hat; have HO := Aside0.mk (acc_row hr); have HB := Aside0.mk hb; clear hr hb hg hat HC)
    | (go_at_call 26; refine (p2 _).mono ?_; rintro e w1 ⟨A1, rfl, hc, hr, hb⟩; have HC := Aside0.mk hc; have HO := Aside0.mk (Kd.R_below HO.out hb); have HB := Aside0.mk (below_then HB.out HB.out.size hb); clear hc hr hb)
    | ((with_reducible refine gate_builtin (b := .append) (xs := #[.tmp 6, .tmp 7]) rfl ?_); at_builtin; refine Kd.R_append_rows k53 (w0 := w) w.heap.size rfl (.tmp 6) (.tmp 7) 26 53 _ 24 rfl Try.underlying26 info53 rfl (by decide) (by omega) _ (acc 1) (tb 2) _ _ _ (fun _ => True) (fun _ => False) rfl rfl HO.out HC.out (fun _ _ h => h) (fun _ h => h.elim) (fun _ _ => trivial) HB.out HB.out.size (by have := acc_len 1 (by decide); omega) ?_; intro v1 w1 hr hb hg hat; have HO := Aside0.mk (acc_row hr); have HB := Aside0.mk hb; clear hr hb hg hat HC)
    | (go_at_call 27; refine (p3 _).mono ?_; rintro e w1 ⟨A1, rfl, hc, hr, hb⟩; have HC := Aside0.mk hc; have HO := Aside0.mk (Kd.R_below HO.out hb); have HB := Aside0.mk (below_then HB.out HB.out.size hb); clear hc hr hb)
    | ((with_reducible refine gate_builtin (b := .append) (xs := #[.tmp 9, .tmp 10]) rfl ?_); at_builtin; refine Kd.R_append_rows k53 (w0 := w) w.heap.size rfl (.tmp 9) (.tmp 10) 26 53 _ 24 rfl Try.underlying26 info53 rfl (by decide) (by omega) _ (acc 2) (tb 3) _ _ _ (fun _ => True) (fun _ => False) rfl rfl HO.out HC.out (fun _ _ h => h) (fun _ h => h.elim) (fun _ _ => trivial) HB.out HB.out.size (by have := acc_len 2 (by decide); omega) ?_; intro v1 w1 hr hb hg hat; have HO := Aside0.mk (acc_row hr); have HB := Aside0.mk hb; clear hr hb hg hat HC)
    | (go_at_call 28; refine (p4 _).mono ?_; rintro e w1 ⟨A1, rfl, hc, hr, hb⟩; have HC := Aside0.mk hc; have HO := Aside0.mk (Kd.R_below HO.out hb); have HB := Aside0.mk (below_then HB.out HB.out.size hb); clear hc hr hb)
    | ((with_reducible refine gate_builtin (b := .append) (xs := #[.tmp 12, .tmp 13]) rfl ?_); at_builtin; refine Kd.R_append_rows k53 (w0 := w) w.heap.size rfl (.tmp 12) (.tmp 13) 26 53 _ 24 rfl Try.underlying26 info53 rfl (by decide) (by omega) _ (acc 3) (tb 4) _ _ _ (fun _ => True) (fun _ => False) rfl rfl HO.out HC.out (fun _ _ h => h) (fun _ h => h.elim) (fun _ _ => trivial) HB.out HB.out.size (by have := acc_len 3 (by decide); omega) ?_; intro v1 w1 hr hb hg hat; have HO := Aside0.mk (acc_row hr); have HB := Aside0.mk hb; clear hr hb hg hat HC)
    | (go_at_call 29; refine (p5 _).mono ?_; rintro e w1 ⟨A1, rfl, hc, hr, hb⟩; have HC := Aside0.mk hc; have HO := Aside0.mk (Kd.R_below HO.out hb); have HB := Aside0.mk (below_then HB.out HB.out.size hb); clear hc hr hb)
    | ((with_reducible refine gate_builtin (b := .append) (xs := #[.tmp 15, .tmp 16]) rfl ?_); at_builtin; refine Kd.R_append_rows k53 (w0 := w) w.heap.size rfl (.tmp 15) (.tmp 16) 26 53 _ 24 rfl Try.underlying26 info53 rfl (by decide) (by omega) _ (acc 4) (tb 5) _ _ _ (fun _ => True) (fun _ => False) rfl rfl HO.out HC.out (fun _ _ h => h) (fun _ h => h.elim) (fun _ _ => trivial) HB.out HB.out.size (by have := acc_len 4 (by decide); omega) ?_; intro v1 w1 hr hb hg hat; have HO := Aside0.mk (acc_row hr); have HB := Aside0.mk hb; clear hr hb hg hat HC)
    | (go_at_call 30; refine (p6 _).mono ?_; rintro e w1 ⟨A1, rfl, hc, hr, hb⟩; have HC := Aside0.mk hc; have HO := Aside0.mk (Kd.R_below HO.out hb); have HB := Aside0.mk (below_then HB.out HB.out.size hb); clear hc hr hb)
    | ((with_reducible refine gate_builtin (b := .append) (xs := #[.tmp 18, .tmp 19]) rfl ?_); at_builtin; refine Kd.R_append_rows k53 (w0 := w) w.heap.size rfl (.tmp 18) (.tmp 19) 26 53 _ 24 rfl Try.underlying26 info53 rfl (by decide) (by omega) _ (acc 5) (tb 6) _ _ _ (fun _ => True) (fun _ => False) rfl rfl HO.out HC.out (fun _ _ h => h) (fun _ h => h.elim) (fun _ _ => trivial) HB.out HB.out.size (by have := acc_len 5 (by decide); omega) ?_; intro v1 w1 hr hb hg hat; have HO := Aside0.mk (acc_row hr); have HB := Aside0.mk hb; clear hr hb hg hat HC)
    | (go_at_call 31; refine (p7 _).mono ?_; rintro e w1 ⟨A1, rfl, hc, hr, hb⟩; have HC := Aside0.mk hc; have HO := Aside0.mk (Kd.R_below HO.out hb); have HB := Aside0.mk (below_then HB.out HB.out.size hb); clear hc hr hb)
    | ((with_reducible refine gate_builtin (b := .append) (xs := #[.tmp 21, .tmp 22]) rfl ?_); at_builtin; refine Kd.R_append_rows k53 (w0 := w) w.heap.size rfl (.tmp 21) (.tmp 22) 26 53 _ 24 rfl Try.underlying26 info53 rfl (by decide) (by omega) _ (acc 6) (tb 7) _ _ _ (fun _ => True) (fun _ => False) rfl rfl HO.out HC.out (fun _ _ h => h) (fun _ h => h.elim) (fun _ _ => trivial) HB.out HB.out.size (by have := acc_len 6 (by decide); omega) ?_; intro v1 w1 hr hb hg hat; have HO := Aside0.mk (acc_row hr); have HB := Aside0.mk hb; clear hr hb hg hat HC))
  go_ret
  exact ⟨_, rfl, HO.out, HB.out⟩
end Go.Proofs.Ytejkfochijgkdaa.Pt
