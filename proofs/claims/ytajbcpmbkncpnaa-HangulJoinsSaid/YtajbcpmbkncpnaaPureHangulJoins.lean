/- The law HangulJoins answers true at every two code points. No condition. -/
import Derived.Test.YtajbcpmbkncpnaaPAllx1
import Derived.OpenShut
namespace Go.Proofs.Ytajbcpmbkncpnaa.Pure
open Go.RowKit Go.Proofs.Ytajbcpmbkncpnaa.PAll Go.Proofs.YtajbcpmbkncpnaaW.PrintWords Go.Proofs.YtajbcpmbkncpnaaW.PrintLast

theorem w32 {x : Int} (h1 : -2147483648 ≤ x) (h2 : x ≤ 2147483647) : wrap32 x = x := by unfold wrap32; omega
theorem open_eq (a : Int) : hangul_Open.f a = some (decide ((44032 ≤ a ∧ a ≤ 55203) ∧ (a - 44032) % 28 = 0)) := by
  unfold hangul_Open.f hangul_Syllable.f
  by_cases h1 : a ≥ 44032
  · by_cases h2 : a < 55204
    · rw [if_pos h1, decide_eq_true h2]
      simp only [Option.bind_some, if_true]
      rw [w32 (by omega) (by omega), Int.tmod_eq_emod_of_nonneg (by omega)]
      congr 1
      by_cases h3 : (a - 44032) % 28 = 0
      · rw [decide_eq_true (by omega), h3]; rfl
      · rw [decide_eq_false (by omega)]; simpa using h3
    · rw [if_pos h1, decide_eq_false h2]
      simp only [Option.bind_some, Bool.false_eq_true, if_false]
      rw [decide_eq_false (by omega)]
  · rw [if_neg h1]
    simp only [Option.bind_some, Bool.false_eq_true, if_false]
    rw [decide_eq_false (by omega)]
theorem join_no (k : Nat) (a b : Int) (h : ¬ ((4352 ≤ a ∧ a ≤ 4370) ∧ 4449 ≤ b ∧ b ≤ 4469)) : hangul_Join.f (k + 1) a b = hangul_Join.j0 (k + 1) a b false := by
  unfold hangul_Join.f
  by_cases h1 : a ≥ 4352
  · rw [if_pos h1]
    by_cases h2 : a < 4371
    · rw [if_pos h2]
      by_cases h3 : b ≥ 4449
      · rw [if_pos h3, decide_eq_false (by omega)]
      · rw [if_neg h3]
    · rw [if_neg h2]
  · rw [if_neg h1]
theorem join_eq (k : Nat) (a b : Int) : hangul_Join.f (k + 1) a b = some (if refJoin a b < 0 then (0, false) else (refJoin a b, true)) := by
  by_cases h : (4352 ≤ a ∧ a ≤ 4370) ∧ 4449 ≤ b ∧ b ≤ 4469
  · rw [refJoin_lv a b h.1.1 h.1.2 h.2.1 h.2.2, if_neg (by omega)]
    unfold hangul_Join.f
    rw [if_pos (by omega), if_pos (by omega), if_pos (by omega), decide_eq_true (by omega)]
    simp only [hangul_Join.j0, if_true]
    rw [w32 (x := a - 4352) (by omega) (by omega), w32 (x := (a - 4352) * 21) (by omega) (by omega), w32 (x := (a - 4352) * 21 + b) (by omega) (by omega), w32 (x := (a - 4352) * 21 + b - 4449) (by omega) (by omega), w32 (x := ((a - 4352) * 21 + b - 4449) * 28) (by omega) (by omega), w32 (by omega) (by omega)]
    congr 2
    omega
  · rw [join_no k a b h]
    simp only [hangul_Join.j0, Bool.false_eq_true, if_false]
    rw [open_eq]
    simp only [Option.bind_some]
    by_cases h2 : (44032 ≤ a ∧ a ≤ 55203) ∧ (a - 44032) % 28 = 0
    · rw [decide_eq_true h2]
      simp only [if_true]
      by_cases h3 : b > 4519
      · by_cases h4 : b < 4547
        · rw [if_pos h3, if_pos h4, refJoin_t a b h2.1.1 h2.1.2 (by omega) (by omega) (by omega), if_neg (by omega), w32 (x := a + b) (by omega) (by omega), w32 (by omega) (by omega)]
        · rw [if_pos h3, if_neg h4, refJoin_no a b h (by omega), if_pos (by omega)]
      · rw [if_neg h3, refJoin_no a b h (by omega), if_pos (by omega)]
    · rw [decide_eq_false h2]
      simp only [Bool.false_eq_true, if_false]
      rw [refJoin_no a b h (by omega), if_pos (by omega)]
theorem refJoin_bound (a b : Int) (hb : -2147483648 ≤ b ∧ b ≤ 2147483647) : -1 ≤ refJoin a b ∧ refJoin a b ≤ 2147483647 := by
  unfold refJoin
  split
  · omega
  · split <;> omega
theorem awake_ok (k : Nat) : monikerlaw08_awake.f (k + 1) = some true := by kernel_rfl

theorem HangulJoins : monikerlaw08_HangulJoins.Pure := by
  intro a b ha hb
  have h1 := bounds_i32 ha
  have h2 := bounds_i32 hb
  refine ⟨3, ?_⟩
  unfold monikerlaw08_HangulJoins.f
  have hr := refJoin_bound a b (by omega)
  rw [join_eq]
  simp only [Option.bind_some]
  rw [show wrap64 a = a by unfold wrap64; omega, show wrap64 b = b by unfold wrap64; omega]
  unfold monikerref08_Join.f
  rw [if_pos (by omega), awake_ok]
  simp only [Option.bind_some]
  by_cases h : refJoin a b < 0
  · rw [if_pos h, decide_eq_false (by omega)]; rfl
  · rw [if_neg h, decide_eq_true (by omega)]
    simp only [beq_self_eq_true, if_true]
    rw [show wrap64 (refJoin a b) = refJoin a b by unfold wrap64; omega, if_pos rfl]

end Go.Proofs.Ytajbcpmbkncpnaa.Pure
