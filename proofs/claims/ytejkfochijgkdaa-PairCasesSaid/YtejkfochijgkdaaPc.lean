/- The law PairCases, walked. -/
import Derived.Test.YtejkfochijgkdaaPl
import Derived.Test.YtejkfochijgkdaaPk3
namespace Go.Proofs.Ytejkfochijgkdaa.Pr
open Go.RowKit Go.Maps Go.Proofs.Ytejkfochijgkdaa.MapF Go.Proofs.YtejkfochijgkdaaW.PrintWords Go.Proofs.YtejkfochijgkdaaW.PrintLast Go.Proofs.YtejkfochijgkdaaW.PrintMore
open Go.Proofs.Ytejkfochijgkdaa.Pk (lowS widthS rWidth lk ST low_eq wid_eq lower_ev width_calls rwidth_calls rlower_calls)
set_option linter.unusedVariables false
set_option linter.unusedSimpArgs false
theorem low_calls (w : World) (r : Int) : Calls Try.prog 14 #[.int .i32 r] w fun e w' => e = .returned (.int .i32 (lowS r)) ∧ Below w.heap.size w w' :=
  PPairCases.pair_Lower.calls 100 r (lowS r) w (lower_ev r)
theorem rng32 {a : Int} (h : (Lit.int .i32 a).wf = true) : -2147483648 ≤ a ∧ a ≤ 2147483647 := by
  simp [Lit.wf, IntKind.min, IntKind.max, IntKind.signed, IntKind.bits] at h
  omega
theorem wf32 {a : Int} (h : -2147483648 ≤ a ∧ a ≤ 2147483647) : (Lit.int .i32 a).wf = true := by
  simp [Lit.wf, IntKind.min, IntKind.max, IntKind.signed, IntKind.bits]
  omega
/-- What is known of a rune's lower case and width. -/
structure RuneOk (r lo wi : Int) : Prop where
  low : ∀ w, Calls Try.prog 14 #[.int .i32 r] w fun e w' => e = .returned (.int .i32 lo) ∧ Below w.heap.size w w'
  low2 : ∀ w, Calls Try.prog 14 #[.int .i32 lo] w fun e w' => e = .returned (.int .i32 lo) ∧ Below w.heap.size w w'
  wid : ∀ w, Calls Try.prog 15 #[.int .i32 r] w fun e w' => e = .returned (.int .i32 wi) ∧ Below w.heap.size w w'
  wid2 : ∀ w, Calls Try.prog 15 #[.int .i32 wi] w fun e w' => e = .returned (.int .i32 wi) ∧ Below w.heap.size w w'
  rlow : ∀ w, Calls Try.prog 16 #[.int .i64 r] w fun e w' => e = .returned (.int .i64 lo) ∧ Below w.heap.size w w'
  rwid : ∀ w, Calls Try.prog 17 #[.int .i64 r] w fun e w' => e = .returned (.int .i64 wi) ∧ Below w.heap.size w w'
  wlo : wrap64 lo = lo
  wwi : wrap64 wi = wi
  wr : wrap64 r = r
theorem rune_ok (r : Int) (h : (Lit.int .i32 r).wf = true) : ∃ lo wi, RuneOk r lo wi := by
  have hr := rng32 h
  obtain ⟨l1, l2, l3⟩ := low_eq r hr
  obtain ⟨w1, w2, w3⟩ := wid_eq r hr
  refine ⟨lowS r, widthS r, fun w => low_calls w r, fun w => ?_, fun w => width_calls w r h, fun w => ?_, fun w => ?_, fun w => ?_, wrap64_in _ (by omega), wrap64_in _ (by omega), wrap64_in _ (by omega)⟩
  · have := low_calls w (lowS r)
    rw [l2] at this
    exact this
  · have := width_calls w (widthS r) (wf32 w3)
    rw [w2] at this
    exact this
  · have := rlower_calls w r hr
    rw [← l1] at this
    exact this
  · have := rwidth_calls w r hr
    rw [← w1] at this
    exact this
set_option maxHeartbeats 16000000 in
theorem cases_walk (T : S) (xs : List (Int × Int × Int)) (H : Both T xs) (A : Option Addr) (len cap : Nat) (w : World) (hR : ∀ j, j < len → ∃ x a, A = some x ∧ RuneAt w (x.add j) a) (hlen : len ≤ 9223372036854775807) :
    Calls Try.prog 5 #[.slice A len cap] w fun e w' => e = .returned (.bool true) ∧ Below w.heap.size w w' := by
  have HR := Aside0.mk hR
  have HL := Aside0.mk hlen
  have HN := Aside0.mk (H.new w)
  have HA := Aside0.mk (fun W (h : Pz W (w.heap.size + 1 + 1 + 1) w.heap.size (w.heap.size + 1) (w.heap.size + 1 + 1) 1000000000 T.m T.dn T.up T.sec) => awake_calls h H.d233 H.u233)
  clear H hR hlen
  by_cases hl : 60 < len
  · have q1 : decide (60 < (len : Int)) = true := decide_eq_true (by omega)
    go_enter Try.func5, Try.ntmps5
    go_wp2_with (first
      | (go_at_call 7; refine HN.out.mono ?_; rintro e w1 ⟨rfl, hz⟩; have HZ := Aside0.mk hz; clear hz)
      | (go_at_call 8; (with_reducible refine (HA.out _ HZ.out.1).mono ?_); rintro e w2 ⟨rfl, hb2⟩; have HB := Aside0.mk (below_then HZ.out.2 HZ.out.2.size hb2); clear hb2))
    go_ret
    exact ⟨rfl, HB.out⟩
  · have q1 : decide (60 < (len : Int)) = false := decide_eq_false (by omega)
    go_enter Try.func5, Try.ntmps5
    go_wp2_with (first
      | (go_at_call 7; refine HN.out.mono ?_; rintro e wA ⟨rfl, hz⟩; have HZ := Aside0.mk hz; clear hz))
    go_loopg [16] (len + 1) (fun kq v16 wr => ∃ (j : Nat), v16 = .int .i64 (j : Int) ∧ Aside0 (Below wA.heap.size wA wr ∧ j + kq = len + 1 ∧ j ≤ len))
    case atStart => exact ⟨0, rfl, ⟨Below.refl _ _, by omega, by omega⟩⟩
    case round =>
      obtain ⟨j, rfl, HI⟩ := hrel
      have hj := HI.out.2.2
      have hba := HI.out.1
      by_cases hl : j < len
      · have q2 : decide ((j : Int) < (len : Int)) = true := decide_eq_true (by omega)
        obtain ⟨ad, r, hA, hp⟩ := HR.out j hl
        subst hA
        have hp1 := (hp.below HZ.out.2).below hba
        have c0 := hp1.c0
        have p1 : (0 ≤ (j : Int)) = True := eq_true (by omega)
        have p2 : ((j : Int) < (len : Int)) = True := eq_true (by omega)
        obtain ⟨lo, wi, hk⟩ := rune_ok r hp1.wa
        have HK := Aside0.mk hk
        have k1 := hk.wlo
        have k2 := hk.wwi
        have k3 := hk.wr
        have HBW := Aside0.mk hba
        have HLJ := Aside0.mk hl
        clear hp hp1 hba hl hj hk
        go_wp2_with (first
          | (go_at_call 14; (with_reducible refine (HK.out.low _).mono ?_); rintro e w2 ⟨rfl, hb⟩; have HBW := Aside0.mk (below_then HBW.out HBW.out.size hb); clear hb)
          | (go_at_call 15; (with_reducible refine (HK.out.wid _).mono ?_); rintro e w3 ⟨rfl, hb⟩; have HBW := Aside0.mk (below_then HBW.out HBW.out.size hb); clear hb)
          | (go_at_call 16; (with_reducible refine (HK.out.rlow _).mono ?_); rintro e w4 ⟨rfl, hb⟩; have HBW := Aside0.mk (below_then HBW.out HBW.out.size hb); clear hb)
          | (go_at_call 17; (with_reducible refine (HK.out.rwid _).mono ?_); rintro e w5 ⟨rfl, hb⟩; have HBW := Aside0.mk (below_then HBW.out HBW.out.size hb); clear hb)
          | (go_at_call 14; (with_reducible refine (HK.out.low2 _).mono ?_); rintro e w6 ⟨rfl, hb⟩; have HBW := Aside0.mk (below_then HBW.out HBW.out.size hb); clear hb)
          | (go_at_call 15; (with_reducible refine (HK.out.wid2 _).mono ?_); rintro e w7 ⟨rfl, hb⟩; have HBW := Aside0.mk (below_then HBW.out HBW.out.size hb); clear hb))
        cases gk with
        | zero => have := HI.out.2.1; have := HLJ.out; omega
        | succ q =>
        go_roundg q
        case measure => omega
        case rel => exact ⟨j + 1, nx5 HLJ.out HL.out, ⟨HBW.out, by have := HI.out.2.1; omega, by have := HLJ.out; omega⟩⟩
      · have q2 : decide ((j : Int) < (len : Int)) = false := decide_eq_false (by omega)
        have q3 : decide (j < len) = false := decide_eq_false hl
        have HBW := Aside0.mk HI.out.1
        clear hj hba hl
        go_wp2_with (first
          | (go_at_call 8; (with_reducible refine (HA.out _ (HZ.out.1.after HBW.out)).mono ?_); rintro e w2 ⟨rfl, hb⟩; have HBW := Aside0.mk (below_then HBW.out HBW.out.size hb); clear hb))
        go_ret
        exact ⟨rfl, below_then HZ.out.2 HZ.out.2.size HBW.out⟩
end Go.Proofs.Ytejkfochijgkdaa.Pr
