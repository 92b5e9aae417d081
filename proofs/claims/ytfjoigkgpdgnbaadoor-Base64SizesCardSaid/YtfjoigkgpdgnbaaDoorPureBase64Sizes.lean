/- The pure law Base64Sizes: so many bytes have as many signs as the document says. No condition. -/
import Derived.Test.YtfjoigkgpdgnbaaDoorP34b
namespace Go.Proofs.YtfjoigkgpdgnbaaDoor.Pure
open Go.RowKit Go.Proofs.YtfjoigkgpdgnbaaDoor.PAll Go.Proofs.YtfjoigkgpdgnbaaDoor.By Go.Proofs.YtfjoigkgpdgnbaaDoor.P34 Go.Proofs.YtfjoigkgpdgnbaaDoorW.PrintWords Go.Proofs.YtfjoigkgpdgnbaaDoorW.PrintLast Go.Proofs.YtfjoigkgpdgnbaaDoorW.PrintMore
set_option linter.unusedVariables false

theorem size_neg (a : Int) (p : Bool) (h : a < 0) : base64_Size.f a p = some 0 := by unfold base64_Size.f; rw [if_pos h]
theorem td (x m : Int) (h : 0 ≤ x) : Int.tdiv x m = x / m := Int.tdiv_eq_ediv_of_nonneg h
theorem tm (x m : Int) (h : 0 ≤ x) : Int.tmod x m = x % m := Int.tmod_eq_emod_of_nonneg h
theorem size_pad (a : Int) (h : 0 ≤ a) (h2 : a ≤ 1099511627776) : base64_Size.f a true = some ((a + 2) / 3 * 4) := by
  unfold base64_Size.f
  rw [if_neg (by omega), if_pos rfl, w64 (x := a + 2) (by omega) (by omega), td _ _ (by omega), w64 (x := (a + 2) / 3) (by omega) (by omega), w64 (by omega) (by omega)]
theorem size_bare (a : Int) (h : 0 ≤ a) (h2 : a ≤ 1099511627776) : base64_Size.f a false = some (a / 3 * 4 + a % 3 + (a % 3 + 1) / 2) := by
  unfold base64_Size.f
  rw [if_neg (by omega), if_neg (by decide), td a _ h, tm a _ h, w64 (x := a / 3) (by omega) (by omega), w64 (x := a / 3 * 4) (by omega) (by omega), w64 (x := a / 3 * 4 + a % 3) (by omega) (by omega), w64 (x := a % 3 + 1) (by omega) (by omega), td _ _ (by omega), w64 (x := (a % 3 + 1) / 2) (by omega) (by omega), w64 (by omega) (by omega)]
theorem Base64Sizes : monikerlaw34_Base64Sizes.Pure := by
  intro a0 _
  refine Ev.rounds (g := fun k => monikerlaw34_Base64Sizes.f k a0) ?_
  unfold monikerlaw34_Base64Sizes.f
  by_cases h0 : a0 < 0
  · simp only [h0, if_true, size_neg a0 _ h0, Option.bind_some]
    exact Ev.bind awake_ev (Ev.now _)
  by_cases h1 : a0 > 1099511627776
  · simp only [h0, h1, if_true, if_false]
    exact Ev.bind awake_ev (Ev.now _)
  have n0 : 0 ≤ a0 := by omega
  have n1 : a0 ≤ 1099511627776 := by omega
  have e1 : wrap64 (Int.tdiv a0 3) = a0 / 3 := by rw [td _ _ n0, w64 (by omega) (by omega)]
  have e2 : wrap64 (a0 / 3 * 4) = a0 / 3 * 4 := w64 (by omega) (by omega)
  have e3 : wrap64 (a0 / 3 * 4 + 4) = a0 / 3 * 4 + 4 := w64 (by omega) (by omega)
  have e4 : wrap64 (a0 % 3 + 1) = a0 % 3 + 1 := w64 (by omega) (by omega)
  have e5 : wrap64 (a0 / 3 * 4 + (a0 % 3 + 1)) = a0 / 3 * 4 + (a0 % 3 + 1) := w64 (by omega) (by omega)
  have e6 : Int.tmod a0 3 = a0 % 3 := tm _ _ n0
  by_cases h2 : a0 % 3 > 0
  · have s1 : (a0 + 2) / 3 * 4 = a0 / 3 * 4 + 4 := by clear e1 e2 e3 e4 e5 e6; omega
    have s2 : a0 / 3 * 4 + a0 % 3 + (a0 % 3 + 1) / 2 = a0 / 3 * 4 + (a0 % 3 + 1) := by clear e1 e2 e3 e4 e5 e6; omega
    simp only [h0, h1, if_false, e6, h2, if_true, size_pad a0 n0 n1, size_bare a0 n0 n1, Option.bind_some, e1, e2, e3, e4, e5, s1, s2]
    exact Ev.bind awake_ev (Ev.now _)
  · have s1 : (a0 + 2) / 3 * 4 = a0 / 3 * 4 := by clear e1 e2 e3 e4 e5 e6; omega
    have s2 : a0 / 3 * 4 + a0 % 3 + (a0 % 3 + 1) / 2 = a0 / 3 * 4 := by clear e1 e2 e3 e4 e5 e6; omega
    simp only [h0, h1, if_false, e6, h2, if_true, size_pad a0 n0 n1, size_bare a0 n0 n1, Option.bind_some, e1, e2, s1, s2]
    exact Ev.bind awake_ev (Ev.now _)
end Go.Proofs.YtfjoigkgpdgnbaaDoor.Pure
