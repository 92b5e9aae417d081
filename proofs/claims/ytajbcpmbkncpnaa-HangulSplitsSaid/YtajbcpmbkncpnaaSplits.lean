/- The walk of the law HangulSplits: it answers true at every two numbers. No condition. -/
import Derived.Test.YtajbcpmbkncpnaaPAllx1
import Derived.OpenShut
namespace Go.Proofs.Ytajbcpmbkncpnaa.Splits
open Go.RowKit Go.Proofs.Ytajbcpmbkncpnaa.PAll Go.Proofs.YtajbcpmbkncpnaaW.PrintWords Go.Proofs.YtajbcpmbkncpnaaW.PrintLast Go.Proofs.YtajbcpmbkncpnaaW.PrintMore
set_option linter.unusedVariables false
theorem w32 {x : Int} (h1 : -2147483648 ≤ x) (h2 : x ≤ 2147483647) : wrap32 x = x := by unfold wrap32; omega
theorem awake_ok (k : Nat) : monikerlaw08_awake.f (k + 1) = some true := by kernel_rfl
/-- How a number beyond all syllables is told. -/
theorem at_out (n : Int) (h : n < 0 ∨ 11172 ≤ n) : hangul_At.f n = some (0, false) := by
  unfold hangul_At.f
  rcases h with h | h
  · rw [if_pos h]
  · rw [if_neg (by omega), if_pos (by omega)]
theorem at_in (n : Int) (h : 0 ≤ n) (h2 : n < 11172) : hangul_At.f n = some (44032 + n, true) := by
  unfold hangul_At.f
  rw [if_neg (by omega), if_neg (by omega), w32 (x := n) (by omega) (by omega), w32 (by omega) (by omega)]
theorem size3 (w : World) : (sizeOf 3).run Try.prog w = .ok 1 w := by kernel_rfl
theorem p0 (w : World) (x y z : Int) : (part 3 #[.int .i64 x, .int .i64 y, .int .i64 z] 0).run Try.prog w = .ok (.int .i64 x) w := by kernel_rfl
theorem p1 (w : World) (x y z : Int) : (part 3 #[.int .i64 x, .int .i64 y, .int .i64 z] 1).run Try.prog w = .ok (.int .i64 y) w := by kernel_rfl
theorem p2 (w : World) (x y z : Int) : (part 3 #[.int .i64 x, .int .i64 y, .int .i64 z] 2).run Try.prog w = .ok (.int .i64 z) w := by kernel_rfl
theorem eq3 (d : Nat) (w : World) (x : Int) : (Op.equalIn (d + 1) 3 (.int .i64 x) (.int .i64 x)).run Try.prog w = .ok true w := by
  rw [run_equalIn_int w d 3 .i64 .i64 x x Try.underlying3]; simp
theorem arr_eq (d : Nat) (w : World) (x y z : Int) : (Op.equalIn (d + 2) 33 (.agg #[.int .i64 x, .int .i64 y, .int .i64 z]) (.agg #[.int .i64 x, .int .i64 y, .int .i64 z])).run Try.prog w = .ok true w := by
  rw [Op.equalIn]
  simp only [Sem.run_bind, run_underlying Try.underlying33, Result.andThen_ok, size3]
  simp [Std.Legacy.Range.forIn_eq_forIn_range', Std.Legacy.Range.size, List.range', List.forIn_cons, List.forIn_nil, Sem.run_bind, Result.andThen_ok, p0, p1, p2, eq3]
set_option maxHeartbeats 4000000 in
set_option maxRecDepth 100000 in
theorem yes_walk (r n x y z u : Int) (there op : Bool) (w : World) (hr1 : 44032 ≤ r) (hr2 : r ≤ 55203)
    (hx1 : -2147483648 ≤ x) (hx2 : x ≤ 2147483647) (hy1 : -2147483648 ≤ y) (hy2 : y ≤ 2147483647) (hz1 : -2147483648 ≤ z) (hz2 : z ≤ 2147483647)
    (hS : Aside0 (hangul_Split.f r = some (x, y, z, true))) (HP : Aside0 (∀ w : World, Calls Try.prog 12 #[.int .i64 r] w fun e w' => e = .returned (.tuple #[.agg #[.int .i64 x, .int .i64 y, .int .i64 z], .bool true]) ∧ Below w.heap.size w w'))
    (hY : Aside0 (hangul_Syllable.f r = some true)) (hO : Aside0 (hangul_Open.f r = some op)) (hop : (z == 0) = op) (hN : Aside0 (hangul_Number.f r = some (r - 44032)))
    (hA : Aside0 (hangul_At.f n = some (u, there))) (hn : (there = false ∧ u = 0 ∧ (n < 0 ∨ 11172 ≤ n)) ∨ (there = true ∧ u = 44032 + n ∧ 0 ≤ n ∧ n < 11172)) :
    Calls Try.prog 5 #[.int .i32 r, .int .i64 n] w fun e w' => e = .returned (.bool true) ∧ Below w.heap.size w w' := by
  have hW := Aside0.mk (awake_ok 1)
  have hEq : ∀ w, (Op.equalIn 10000 33 (.agg #[.int .i64 x, .int .i64 y, .int .i64 z]) (.agg #[.int .i64 x, .int .i64 y, .int .i64 z])).run Try.prog w = .ok true w := fun w => arr_eq 9998 w x y z
  rcases hn with ⟨rfl, rfl, hn | hn⟩ | ⟨rfl, rfl, hn, hn'⟩ <;> cases op
  all_goals
    go_enter Try.func5, Try.ntmps5
    go_wp2_with (first | (go_at_call 10; (with_reducible refine (hangul_Split.calls r _ _ _ _ _ hS.out).mono ?_); rintro e w' ⟨rfl, ⟨nd, rfl⟩⟩) | (go_at_call 12; refine (HP.out _).mono ?_; rintro e w' ⟨rfl, hb⟩; obtain ⟨hc, hf⟩ := bcell hb; have hsz := hb.size; have HB := Aside0.mk hb; clear hb) | (go_at_call 13; (with_reducible refine (hangul_Syllable.calls r _ _ hY.out).mono ?_); rintro e w' ⟨rfl, ⟨nd, rfl⟩⟩) | (go_at_call 11; (with_reducible refine (hangul_Open.calls r _ _ hO.out).mono ?_); rintro e w' ⟨rfl, ⟨nd, rfl⟩⟩) | (go_at_call 14; (with_reducible refine (hangul_Number.calls r _ _ hN.out).mono ?_); rintro e w' ⟨rfl, ⟨nd, rfl⟩⟩) | (go_at_call 9; (with_reducible refine (hangul_At.calls n _ _ _ hA.out).mono ?_); rintro e w' ⟨rfl, ⟨nd, rfl⟩⟩) | (go_at_call 8; (with_reducible refine (monikerlaw08_awake.calls 2 true _ hW.out).mono ?_); rintro e w' ⟨rfl, ⟨nd, rfl⟩⟩))
    go_ret
    exact ⟨rfl, by
      have HB0 := below_then (pw_below_drewN (Below.refl w.heap.size w) _) (Nat.le_refl _) HB.out
      repeat (first | exact HB0 | apply below_alloc | apply pw_below_drewN | apply below_drew | refine below_set ?_ (below_size HB0))⟩
set_option maxHeartbeats 4000000 in
set_option maxRecDepth 100000 in
theorem no_walk (r n u : Int) (there : Bool) (w : World) (hr1 : -2147483648 ≤ r) (hr2 : r ≤ 2147483647)
    (hS : Aside0 (hangul_Split.f r = some (0, 0, 0, false))) (HP : Aside0 (∀ w : World, Calls Try.prog 12 #[.int .i64 r] w fun e w' => e = .returned (.tuple #[.agg #[.int .i64 0, .int .i64 0, .int .i64 0], .bool false]) ∧ Below w.heap.size w w'))
    (hY : Aside0 (hangul_Syllable.f r = some false)) (hO : Aside0 (hangul_Open.f r = some false)) (hN : Aside0 (hangul_Number.f r = some (-1)))
    (hA : Aside0 (hangul_At.f n = some (u, there))) (hn : (there = false ∧ u = 0 ∧ (n < 0 ∨ 11172 ≤ n)) ∨ (there = true ∧ u = 44032 + n ∧ 0 ≤ n ∧ n < 11172)) :
    Calls Try.prog 5 #[.int .i32 r, .int .i64 n] w fun e w' => e = .returned (.bool true) ∧ Below w.heap.size w w' := by
  have hW := Aside0.mk (awake_ok 1)
  have hEq : ∀ w, (Op.equalIn 10000 33 (.agg #[.int .i64 0, .int .i64 0, .int .i64 0]) (.agg #[.int .i64 0, .int .i64 0, .int .i64 0])).run Try.prog w = .ok true w := fun w => arr_eq 9998 w 0 0 0
  rcases hn with ⟨rfl, rfl, hn | hn⟩ | ⟨rfl, rfl, hn, hn'⟩
  all_goals
    go_enter Try.func5, Try.ntmps5
    go_wp2_with (first | (go_at_call 10; (with_reducible refine (hangul_Split.calls r _ _ _ _ _ hS.out).mono ?_); rintro e w' ⟨rfl, ⟨nd, rfl⟩⟩) | (go_at_call 12; refine (HP.out _).mono ?_; rintro e w' ⟨rfl, hb⟩; obtain ⟨hc, hf⟩ := bcell hb; have hsz := hb.size; have HB := Aside0.mk hb; clear hb) | (go_at_call 13; (with_reducible refine (hangul_Syllable.calls r _ _ hY.out).mono ?_); rintro e w' ⟨rfl, ⟨nd, rfl⟩⟩) | (go_at_call 11; (with_reducible refine (hangul_Open.calls r _ _ hO.out).mono ?_); rintro e w' ⟨rfl, ⟨nd, rfl⟩⟩) | (go_at_call 14; (with_reducible refine (hangul_Number.calls r _ _ hN.out).mono ?_); rintro e w' ⟨rfl, ⟨nd, rfl⟩⟩) | (go_at_call 9; (with_reducible refine (hangul_At.calls n _ _ _ hA.out).mono ?_); rintro e w' ⟨rfl, ⟨nd, rfl⟩⟩) | (go_at_call 8; (with_reducible refine (monikerlaw08_awake.calls 2 true _ hW.out).mono ?_); rintro e w' ⟨rfl, ⟨nd, rfl⟩⟩))
    go_ret
    exact ⟨rfl, by
      have HB0 := below_then (pw_below_drewN (Below.refl w.heap.size w) _) (Nat.le_refl _) HB.out
      repeat (first | exact HB0 | apply below_alloc | apply pw_below_drewN | apply below_drew | refine below_set ?_ (below_size HB0))⟩

theorem split_yes (r : Int) (h1 : 44032 ≤ r) (h2 : r ≤ 55203) : hangul_Split.f r = some (4352 + (r - 44032) / 28 / 21, 4449 + (r - 44032) / 28 % 21, if 0 < (r - 44032) % 28 then 4519 + (r - 44032) % 28 else 0, true) := by
  unfold hangul_Split.f hangul_Syllable.f
  rw [if_pos h1, decide_eq_true (by omega)]
  simp only [Option.bind_some, if_true]
  have e0 : wrap32 (r - 44032) = r - 44032 := w32 (by omega) (by omega)
  have e1 : Int.tmod (r - 44032) 28 = (r - 44032) % 28 := Int.tmod_eq_emod_of_nonneg (by omega)
  have e2 : Int.tdiv (r - 44032) 588 = (r - 44032) / 28 / 21 := by rw [Int.tdiv_eq_ediv_of_nonneg (by omega)]; omega
  have e3 : Int.tmod (r - 44032) 588 = (r - 44032) % 588 := Int.tmod_eq_emod_of_nonneg (by omega)
  have e4 : Int.tdiv ((r - 44032) % 588) 28 = (r - 44032) / 28 % 21 := by rw [Int.tdiv_eq_ediv_of_nonneg (by omega)]; omega
  rw [e0, e1, e2, e3, e4, w32 (x := (r - 44032) / 28 / 21) (by omega) (by omega), w32 (x := 4352 + (r - 44032) / 28 / 21) (by omega) (by omega), w32 (x := (r - 44032) / 28 % 21) (by omega) (by omega), w32 (x := 4449 + (r - 44032) / 28 % 21) (by omega) (by omega),
    w32 (x := 4519 + (r - 44032) % 28) (by omega) (by omega)]
  by_cases h0 : 0 < (r - 44032) % 28
  · rw [if_pos h0, if_pos h0]
  · rw [if_neg h0, if_neg h0]
theorem syl_eq (r : Int) : hangul_Syllable.f r = some (decide (44032 ≤ r ∧ r ≤ 55203)) := by
  unfold hangul_Syllable.f
  by_cases h1 : r ≥ 44032
  · rw [if_pos h1]; congr 1; rw [decide_eq_decide]; omega
  · rw [if_neg h1, decide_eq_false (by omega)]

theorem HangulSplits_walk (r n : Int) (w : World) (wr : (Lit.int .i32 r).wf = true) (wn : (Lit.int .i64 n).wf = true) :
    Calls Try.prog 5 #[.int .i32 r, .int .i64 n] w fun e w' => e = .returned (.bool true) ∧ Below w.heap.size w w' := by
  have hr := bounds_i32 wr
  have hA : ∃ u there, hangul_At.f n = some (u, there) ∧ ((there = false ∧ u = 0 ∧ (n < 0 ∨ 11172 ≤ n)) ∨ (there = true ∧ u = 44032 + n ∧ 0 ≤ n ∧ n < 11172)) := by
    by_cases h : 0 ≤ n ∧ n < 11172
    · exact ⟨_, _, at_in n h.1 h.2, .inr ⟨rfl, rfl, h⟩⟩
    · exact ⟨_, _, at_out n (by omega), .inl ⟨rfl, rfl, by omega⟩⟩
  obtain ⟨u, there, hA, hn⟩ := hA
  by_cases h : 44032 ≤ r ∧ r ≤ 55203
  · have hsy : hangul_Syllable.f r = some true := by rw [syl_eq, decide_eq_true h]
    refine yes_walk r n _ _ (if 0 < (r - 44032) % 28 then 4519 + (r - 44032) % 28 else 0) u there _ w h.1 h.2 ?_ ?_ ?_ ?_ ?_ ?_ ⟨split_yes r h.1 h.2⟩ ⟨fun w => ?_⟩ ⟨hsy⟩ ⟨?_⟩ rfl ⟨?_⟩ ⟨hA⟩ hn
    · omega
    · omega
    · omega
    · omega
    · split <;> omega
    · split <;> omega
    · have := parts_any r w
      rwa [show partsV r = .tuple #[.agg #[.int .i64 (4352 + (r - 44032) / 28 / 21), .int .i64 (4449 + (r - 44032) / 28 % 21), .int .i64 (if 0 < (r - 44032) % 28 then 4519 + (r - 44032) % 28 else 0)], .bool true] by unfold partsV; rw [if_pos h]] at this
    · unfold hangul_Open.f
      rw [hsy]
      simp only [Option.bind_some, if_true]
      rw [w32 (by omega) (by omega), Int.tmod_eq_emod_of_nonneg (by omega)]
      congr 1
      by_cases h0 : 0 < (r - 44032) % 28
      · rw [if_pos h0, beq_eq_false_iff_ne.2 (by omega), beq_eq_false_iff_ne.2 (by omega)]
      · rw [if_neg h0, beq_iff_eq.2 (by omega)]; rfl
    · unfold hangul_Number.f
      rw [hsy]
      simp only [Option.bind_some, if_true]
      rw [w32 (by omega) (by omega)]
      unfold wrap64
      congr 1
      omega
  · have hsy : hangul_Syllable.f r = some false := by rw [syl_eq, decide_eq_false h]
    refine no_walk r n u there w hr.1 hr.2 ⟨?_⟩ ⟨fun w => ?_⟩ ⟨hsy⟩ ⟨?_⟩ ⟨?_⟩ ⟨hA⟩ hn
    · unfold hangul_Split.f
      rw [hsy]; rfl
    · have := parts_any r w
      rwa [show partsV r = .tuple #[.agg #[.int .i64 0, .int .i64 0, .int .i64 0], .bool false] by unfold partsV; rw [if_neg h]] at this
    · unfold hangul_Open.f
      rw [hsy]; rfl
    · unfold hangul_Number.f
      rw [hsy]; rfl
end Go.Proofs.Ytajbcpmbkncpnaa.Splits
