/- The law HangulBack answers true at every number: what is split is joined again. No condition. -/
import Derived.Test.YtajbcpmbkncpnaaPHangulBackx1
import Derived.OpenShut
namespace Go.Proofs.Ytajbcpmbkncpnaa.Pure
open Go.RowKit Go.Proofs.Ytajbcpmbkncpnaa.PHangulBack Go.Proofs.YtajbcpmbkncpnaaW.PrintWords Go.Proofs.YtajbcpmbkncpnaaW.PrintLast

theorem w32 {x : Int} (h1 : -2147483648 ≤ x) (h2 : x ≤ 2147483647) : wrap32 x = x := by unfold wrap32; omega

theorem at_ok (m : Nat) (h : m < 11172) : hangul_At.f (m : Int) = some (44032 + (m : Int), true) := by
  unfold hangul_At.f
  rw [if_neg (by omega), if_neg (by omega), w32 (x := (m : Int)) (by omega) (by omega), w32 (by omega) (by omega)]

theorem syl_ok (m : Nat) (h : m < 11172) : hangul_Syllable.f (44032 + (m : Int)) = some true := by
  unfold hangul_Syllable.f
  rw [if_pos (by omega), decide_eq_true (by omega)]

theorem split_ok (m : Nat) (h : m < 11172) : hangul_Split.f (44032 + (m : Int)) = some (4352 + ((m / 588 : Nat) : Int), 4449 + ((m % 588 / 28 : Nat) : Int), if m % 28 = 0 then 0 else 4519 + ((m % 28 : Nat) : Int), true) := by
  unfold hangul_Split.f
  rw [syl_ok m h]
  simp only [Option.bind_some, if_true]
  have e0 : wrap32 (44032 + (m : Int) - 44032) = (m : Int) := by rw [w32 (by omega) (by omega)]; omega
  have e1 : Int.tmod (m : Int) 28 = ((m % 28 : Nat) : Int) := by rw [Int.tmod_eq_emod_of_nonneg (by omega)]; omega
  have e2 : Int.tdiv (m : Int) 588 = ((m / 588 : Nat) : Int) := by rw [Int.tdiv_eq_ediv_of_nonneg (by omega)]; omega
  have e3 : Int.tmod (m : Int) 588 = ((m % 588 : Nat) : Int) := by rw [Int.tmod_eq_emod_of_nonneg (by omega)]; omega
  have e4 : Int.tdiv ((m % 588 : Nat) : Int) 28 = ((m % 588 / 28 : Nat) : Int) := by rw [Int.tdiv_eq_ediv_of_nonneg (by omega)]; omega
  rw [e0, e1, e2, e3, e4, w32 (x := ((m / 588 : Nat) : Int)) (by omega) (by omega), w32 (x := 4352 + ((m / 588 : Nat) : Int)) (by omega) (by omega), w32 (x := ((m % 588 / 28 : Nat) : Int)) (by omega) (by omega), w32 (x := 4449 + ((m % 588 / 28 : Nat) : Int)) (by omega) (by omega),
    w32 (x := 4519 + ((m % 28 : Nat) : Int)) (by omega) (by omega)]
  by_cases h0 : m % 28 = 0
  · rw [if_neg (by omega), if_pos h0]
  · rw [if_pos (by omega), if_neg h0]

theorem open_at (m : Nat) (h : m < 11172) : hangul_Open.f (44032 + (m : Int)) = some (decide (m % 28 = 0)) := by
  unfold hangul_Open.f
  rw [syl_ok m h]
  simp only [Option.bind_some, if_true]
  have e0 : wrap32 (44032 + (m : Int) - 44032) = (m : Int) := by rw [w32 (by omega) (by omega)]; omega
  have e1 : Int.tmod (m : Int) 28 = ((m % 28 : Nat) : Int) := by rw [Int.tmod_eq_emod_of_nonneg (by omega)]; omega
  rw [e0, e1]
  by_cases h0 : m % 28 = 0
  · simp [h0]
  · have : ((m % 28 : Nat) : Int) ≠ 0 := by omega
    rw [beq_eq_false_iff_ne.mpr this]; simp [h0]

theorem join_lv (k i v : Nat) (hi : i < 19) (hv : v < 21) : hangul_Join.f (k + 1) (4352 + (i : Int)) (4449 + (v : Int)) = some (44032 + ((i * 588 + v * 28 : Nat) : Int), true) := by
  unfold hangul_Join.f
  rw [if_pos (by omega), if_pos (by omega), if_pos (by omega), decide_eq_true (by omega)]
  simp only [hangul_Join.j0, if_true]
  rw [w32 (x := 4352 + (i : Int) - 4352) (by omega) (by omega), w32 (x := (4352 + (i : Int) - 4352) * 21) (by omega) (by omega), w32 (x := (4352 + (i : Int) - 4352) * 21 + (4449 + (v : Int))) (by omega) (by omega),
    w32 (x := (4352 + (i : Int) - 4352) * 21 + (4449 + (v : Int)) - 4449) (by omega) (by omega), w32 (x := ((4352 + (i : Int) - 4352) * 21 + (4449 + (v : Int)) - 4449) * 28) (by omega) (by omega), w32 (by omega) (by omega)]
  congr 2
  omega

theorem join_t (k m t : Nat) (hm : m < 11172) (h0 : m % 28 = 0) (ht0 : 0 < t) (ht : t < 28) : hangul_Join.f (k + 1) (44032 + (m : Int)) (4519 + (t : Int)) = some (44032 + ((m + t : Nat) : Int), true) := by
  unfold hangul_Join.f
  rw [if_pos (by omega), if_neg (by omega)]
  simp only [hangul_Join.j0]
  rw [if_neg (by simp), open_at m hm, h0]
  simp only [Option.bind_some, decide_true, if_true]
  rw [if_pos (by omega), if_pos (by omega), w32 (x := 44032 + (m : Int) + (4519 + (t : Int))) (by omega) (by omega), w32 (by omega) (by omega)]
  congr 2
  omega

theorem awake_ok (k : Nat) : monikerlaw08_awake.f (k + 1) = some true := by kernel_rfl

/-- YOURS: ∀ (a0 : Int), (Lit.int .u16 a0).wf = true → ∃ k, monikerlaw08_HangulBack.f k a0 = some true -/
theorem HangulBack : monikerlaw08_HangulBack.Pure := by
  intro a h
  have hb := bounds_u16 h
  obtain ⟨n, rfl⟩ : ∃ n : Nat, a = n := ⟨a.toNat, by omega⟩
  have e : Int.tmod (wrap64 (n : Int)) 11172 = ((n % 11172 : Nat) : Int) := by
    have : wrap64 (n : Int) = (n : Int) := by unfold wrap64; omega
    rw [this, Int.tmod_eq_emod_of_nonneg (by omega)]
    omega
  refine ⟨4, ?_⟩
  unfold monikerlaw08_HangulBack.f
  rw [e]
  have hm : n % 11172 < 11172 := Nat.mod_lt _ (by decide)
  generalize n % 11172 = m at hm
  clear h hb e
  rw [at_ok m hm]
  simp only [Option.bind_some]
  rw [split_ok m hm]
  simp only [Option.bind_some, if_true, Bool.not_true, monikerlaw08_HangulBack.j0]
  rw [if_neg (by simp), join_lv _ _ _ (by omega) (by omega)]
  simp only [Option.bind_some, if_true]
  rw [open_at _ (by omega), decide_eq_true (by omega)]
  simp only [Option.bind_some, Bool.not_true, monikerlaw08_HangulBack.j1]
  rw [if_neg (by simp)]
  by_cases h0 : m % 28 = 0
  · rw [if_pos h0, if_pos rfl, if_pos (by omega), awake_ok]; rfl
  · rw [if_neg h0, if_neg (by omega), join_t _ _ _ (by omega) (by omega) (by omega) (by omega)]
    simp only [Option.bind_some, if_true]
    rw [open_at _ (by omega), decide_eq_false (by omega)]
    simp only [Option.bind_some]
    rw [if_neg (by simp), if_pos (by omega), awake_ok]; rfl

end Go.Proofs.Ytajbcpmbkncpnaa.Pure
