/- awake. -/
import Derived.Test.YtonmollpimoaoaaSj
namespace Go.Proofs.Ytonmollpimoaoaa.Sa
open Go.RowKit Go.Proofs.Ytonmollpimoaoaa.Stg Go.Proofs.YtonmollpimoaoaaW.PrintWords Go.Proofs.YtonmollpimoaoaaW.PrintLast Go.Proofs.YtonmollpimoaoaaW.PrintMore Go.Proofs.Ytonmollpimoaoaa.PStageTells
set_option linter.unusedVariables false
set_option linter.unusedSimpArgs false
/-- The cells of rows. -/
def fl41 : List S41 → List Value
  | [] => []
  | x :: t => .int .i32 x.f0 :: .int .i32 x.f1 :: .int .i64 x.f2 :: fl41 t
theorem fl41_len : ∀ t : List S41, (fl41 t).length = t.length * 3
  | [] => rfl
  | x :: t => by simp only [fl41, List.length_cons, fl41_len t]; omega
theorem fl41_reps (w : World) (base : Nat) (ok : Nat → Prop) : ∀ t : List S41, Reps (k41.M w base ok) 3 t (fl41 t) := fun t => by
  refine ⟨fl41_len t, ?_⟩
  induction t with
  | nil => intro j p hj; simp at hj
  | cons x t ih =>
    intro j p hj
    cases j with
    | zero =>
      simp only [List.getElem?_cons_zero, Option.some.injEq] at hj
      subst hj
      simpa [fl41] using k41_mkM w base ok x
    | succ j =>
      simp only [List.getElem?_cons_succ] at hj
      have := ih j p hj
      rw [show (j + 1) * 3 = j * 3 + 1 + 1 + 1 by omega]
      simpa [fl41] using this
theorem C41_of {w : World} {g : Nat} {xs : List S41} (h : w.heap[g]? = some (.cells (fl41 xs).toArray 41 (0, 0))) (hl : xs.length ≤ 1000000) : Kd.C k41 w (some ⟨g, 0, none⟩) xs.length xs := by
  have hR : k41.R 41 w 0 (fun _ => True) (.slice (some ⟨g, 0, none⟩) xs.length xs.length) xs := by
    refine ⟨fun _ _ => trivial, fl41 xs, ⟨fl41_len xs, .inr ⟨g, xs.length, _, rfl, Nat.zero_le _, h, Nat.le_refl _, by unfold maxLen; omega, ?_, ?_⟩⟩, fl41_reps _ _ _ xs⟩
    · rw [List.size_toArray]; exact fl41_len xs
    · rw [List.toList_toArray]
      exact List.take_of_length_le (by rw [fl41_len]; exact Nat.le_refl _)
  exact (Kd.R_reads' hR).2.2
def xsA : List S41 := [⟨65, 90, 1⟩, ⟨97, 122, 1⟩]
def bA : St := build 0 (rows3 xsA)
set_option maxRecDepth 100000 in
theorem bA_ok : getS 0 bA 70 = 1 ∧ getS 0 bA 91 = 0 ∧ dcS bA.idx [] = 2 ∧ bA.blks.length = 2 := by decide +kernel
theorem xsA_chk : chkS xsA = 0 := by decide
set_option maxHeartbeats 4000000 in
theorem awake_walk (W : World) (s : St) (h1 : getS 0 s 70 = 1) (h2 : getS 0 s 91 = 0) (h3 : dcS s.idx [] = 2) (h4 : s.blks.length = 2)
    (hbu : Calls Try.prog 8 #[.slice (some ⟨W.heap.size, 0, none⟩) 2 2, .int .i64 0] (W.alloc (.cells #[.int .i32 65, .int .i32 90, .int .i64 1, .int .i32 97, .int .i32 122, .int .i64 1] 41)) fun e w' => ∃ TB IX bv, e = .returned (.tuple #[.pointer (some ⟨TB, 0, none⟩), .int .i64 0]) ∧ Tb w' (W.alloc (.cells #[.int .i32 65, .int .i32 90, .int .i64 1, .int .i32 97, .int .i32 122, .int .i64 1] 41)).heap.size TB IX bv 0 s ∧ Below (W.alloc (.cells #[.int .i32 65, .int .i32 90, .int .i64 1, .int .i32 97, .int .i32 122, .int .i64 1] 41)).heap.size (W.alloc (.cells #[.int .i32 65, .int .i32 90, .int .i64 1, .int .i32 97, .int .i32 122, .int .i64 1] 41)) w') :
    Calls Try.prog 6 #[] W fun e w' => e = .returned (.bool true) ∧ Below W.heap.size W w' := by
  have HBU := Aside0.mk hbu
  have HH := Aside0.mk (And.intro h1 (And.intro h2 (And.intro h3 h4)))
  have HB0 := Aside0.mk (below_alloc (Below.refl W.heap.size W) (.cells #[.int .i32 65, .int .i32 90, .int .i64 1, .int .i32 97, .int .i32 122, .int .i64 1] 41))
  clear hbu h1 h2 h3 h4
  go_enter Try.func6, Try.ntmps6
  go_wp2_with (first
    | (go_at_call 8; refine HBU.out.mono ?_; rintro e w1 ⟨TB, IX, bv, rfl, ht, hb⟩; have HB := Aside0.mk (below_then HB0.out HB0.out.size hb); have G1 := Aside0.mk (fun (w' : World) (hw : Below w1.heap.size w1 w') => get_calls w' _ TB IX bv 0 s (ht.after hw) 70); have G2 := Aside0.mk (fun (w' : World) (hw : Below w1.heap.size w1 w') => get_calls w' _ TB IX bv 0 s (ht.after hw) 91); have G3 := Aside0.mk (fun (w' : World) (hw : Below w1.heap.size w1 w') => blocks_calls w' _ TB IX bv 0 s (ht.after hw) (by rw [HH.out.2.2.2]; decide)); rw [HH.out.1] at G1; rw [HH.out.2.1] at G2; rw [HH.out.2.2.1] at G3; have HW := Aside0.mk (Below.refl w1.heap.size w1); clear ht hb)
    | (go_at_call 10; (with_reducible refine (G1.out _ HW.out).mono ?_); rintro e w2 ⟨rfl, hb⟩; have HW := Aside0.mk (below_then HW.out HW.out.size hb); clear hb)
    | (go_at_call 10; (with_reducible refine (G2.out _ HW.out).mono ?_); rintro e w2 ⟨rfl, hb⟩; have HW := Aside0.mk (below_then HW.out HW.out.size hb); clear hb)
    | (go_at_call 14; (with_reducible refine (G3.out _ HW.out).mono ?_); rintro e w2 ⟨rfl, hb⟩; have HW := Aside0.mk (below_then HW.out HW.out.size hb); clear hb))
  go_ret
  exact ⟨rfl, below_then HB.out HB.out.size HW.out⟩
theorem awake_calls (W : World) : Calls Try.prog 6 #[] W fun e w' => e = .returned (.bool true) ∧ Below W.heap.size W w' := by
  have hblk : (W.alloc (.cells #[.int .i32 65, .int .i32 90, .int .i64 1, .int .i32 97, .int .i32 122, .int .i64 1] 41)).heap[W.heap.size]? = some (.cells (fl41 xsA).toArray 41) := blk_new W _
  exact awake_walk W bA bA_ok.1 bA_ok.2.1 bA_ok.2.2.1 bA_ok.2.2.2 (build_good (W.alloc (.cells #[.int .i32 65, .int .i32 90, .int .i64 1, .int .i32 97, .int .i32 122, .int .i64 1] 41)) (some ⟨W.heap.size, 0, none⟩) 2 xsA 0 (C41_of hblk (by decide)) (by decide) (by decide) (by decide) xsA_chk)
end Go.Proofs.Ytonmollpimoaoaa.Sa
