/- The law PairTells, walked. -/
import Derived.Test.YtejkfochijgkdaaPm
namespace Go.Proofs.Ytejkfochijgkdaa.Pr
open Go.RowKit Go.Maps Go.Proofs.Ytejkfochijgkdaa.MapF Go.Proofs.YtejkfochijgkdaaW.PrintWords Go.Proofs.YtejkfochijgkdaaW.PrintLast Go.Proofs.YtejkfochijgkdaaW.PrintMore
open Go.Proofs.Ytejkfochijgkdaa.Pt (k53 rDown rExcl rUp rSec rup_calls rdown_calls rexcl_calls rsec_calls)
set_option linter.unusedVariables false
set_option linter.unusedSimpArgs false
section
variable {w : World} {g b1 b2 b3 n m : Nat} {dn : Int → Option (Int × Int)} {up : Int → Int → Option Int} {sec : Int → Option Int}
set_option maxHeartbeats 1000000 in
theorem second_calls (h : Pz w g b1 b2 b3 n m dn up sec) (r : Int) (hr : (Lit.int .i32 r).wf = true) :
    Calls Try.prog 20 #[.pointer (some ⟨g, 0, none⟩), .int .i32 r] w fun e w' => e = .returned (.bool (decide (0 < (sec r).getD 0))) ∧ Below w.heap.size w w' := by
  have hl := h.look3 r hr
  have c2 := blk_cell h.ps.hd 2
  generalize (sec r).getD 0 = s at hl
  go_enter Try.func20, Try.ntmps20
  go_wp2
  go_ret
  exact ⟨rfl, Below.refl _ _⟩
set_option maxHeartbeats 1000000 in
theorem len_calls (h : Pz w g b1 b2 b3 n m dn up sec) :
    Calls Try.prog 22 #[.pointer (some ⟨g, 0, none⟩)] w fun e w' => e = .returned (.int .i64 m) ∧ Below w.heap.size w w' := by
  have hl := h.ps.m1.len Try.underlying46 3
  have c0 := blk_cell h.ps.hd 0
  go_enter Try.func22, Try.ntmps22
  go_wp2
  go_ret
  exact ⟨rfl, Below.refl _ _⟩
end
/-- A rune, as it lies in a slice. -/
structure RuneAt (w : World) (x : Addr) (a : Int) : Prop where
  c0 : w.cell? x = some (.int .i32 a)
  wa : (Lit.int .i32 a).wf = true
theorem RuneAt.below {w w1 : World} {x : Addr} {a : Int} (h : RuneAt w x a) (hb : Below w.heap.size w w1) : RuneAt w1 x a :=
  ⟨pw_cell_below hb h.c0, h.wa⟩
theorem downV_rng {dn : Int → Option (Int × Int)} (h : ∀ r x y, dn r = some (x, y) → (0 ≤ x ∧ x ≤ 1114111) ∧ 0 ≤ y ∧ y ≤ 1114111) (r : Int) : wrap64 (downV dn r).1 = (downV dn r).1 ∧ wrap64 (downV dn r).2.1 = (downV dn r).2.1 := by
  unfold downV
  cases hd : dn r with
  | none => exact ⟨wrap64_in 0 (by decide), wrap64_in 0 (by decide)⟩
  | some p =>
    obtain ⟨x, y⟩ := p
    have := h r x y hd
    simp only
    split
    · exact ⟨wrap64_in _ (by simp only; omega), wrap64_in 0 (by decide)⟩
    · exact ⟨wrap64_in _ (by simp only; omega), wrap64_in _ (by simp only; omega)⟩
theorem eq41 (a b c d : Int) (w : World) : (Op.equalIn 10000 41 (.agg #[.int .i64 a, .int .i64 b]) (.agg #[.int .i64 c, .int .i64 d])).run Try.prog w = .ok (a == c && b == d) w := by
  have u3 := Try.underlying3
  have a3 := Try.isAgg3
  have z3 := Try.sizeOf3
  rw [show (10000 : Nat) = 9999 + 1 from rfl, Op.equalIn]
  simp only [Sem.run_bind, run_underlying Try.underlying41, Result.andThen_ok]
  simp only [Std.Legacy.Range.forIn_eq_forIn_range', Std.Legacy.Range.size, Nat.sub_zero, Nat.add_sub_cancel, Nat.div_one, List.range'_succ, List.range'_zero, List.forIn_cons, List.forIn_nil]
  go_simp
  by_cases h1 : a = c <;> by_cases h2 : b = d <;> simp [h1, h2]

set_option maxHeartbeats 16000000 in
theorem tells_walk (T : S) (xs : List (Int × Int × Int)) (H : Both T xs) (hdr : ∀ r x y, T.dn r = some (x, y) → (0 ≤ x ∧ x ≤ 1114111) ∧ 0 ≤ y ∧ y ≤ 1114111) (A : Option Addr) (len cap : Nat) (w : World) (hR : ∀ j, j < len → ∃ x a, A = some x ∧ RuneAt w (x.add j) a) (hlen : len ≤ 9223372036854775807) :
    Calls Try.prog 6 #[.slice A len cap] w fun e w' => e = .returned (.bool true) ∧ Below w.heap.size w w' := by
  have HT := Aside0.mk H
  have HDR := Aside0.mk hdr
  have HR := Aside0.mk hR
  have HL := Aside0.mk hlen
  have HN := Aside0.mk (H.new w)
  have HA := Aside0.mk (fun W (h : Pz W (w.heap.size + 1 + 1 + 1) w.heap.size (w.heap.size + 1) (w.heap.size + 1 + 1) 1000000000 T.m T.dn T.up T.sec) => awake_calls h H.d233 H.u233)
  have HLn := Aside0.mk (fun W (h : Pz W (w.heap.size + 1 + 1 + 1) w.heap.size (w.heap.size + 1) (w.heap.size + 1 + 1) 1000000000 T.m T.dn T.up T.sec) => show Calls Try.prog 22 #[.pointer (some ⟨w.heap.size + 1 + 1 + 1, 0, none⟩)] W (fun e w' => e = .returned (.int .i64 (xs.length : Int)) ∧ Below W.heap.size W w') by have h2 := len_calls h; rw [H.len] at h2; exact h2)
  clear H hR hlen hdr
  by_cases hl : 40 < len
  · have q1 : decide (40 < (len : Int)) = true := decide_eq_true (by omega)
    go_enter Try.func6, Try.ntmps6
    go_wp2_with (first
      | (go_at_call 7; refine HN.out.mono ?_; rintro e w1 ⟨rfl, hz⟩; have HZ := Aside0.mk hz; clear hz)
      | (go_at_call 8; (with_reducible refine (HA.out _ HZ.out.1).mono ?_); rintro e w2 ⟨rfl, hb2⟩; have HB := Aside0.mk (below_then HZ.out.2 HZ.out.2.size hb2); clear hb2))
    go_ret
    exact ⟨rfl, HB.out⟩
  · have q1 : decide (40 < (len : Int)) = false := decide_eq_false (by omega)
    go_enter Try.func6, Try.ntmps6
    go_wp2_with (first
      | (go_at_call 7; refine HN.out.mono ?_; rintro e w1 ⟨rfl, hz⟩; have HZ := Aside0.mk hz; clear hz)
      | (go_at_call 9; (with_reducible refine (HT.out.all _).mono ?_); rintro e wA ⟨TA, tc, rfl, htc, hb2⟩; have HZA := Aside0.mk (HZ.out.1.after hb2); have HC := Aside0.mk htc; have HBA := Aside0.mk (below_then HZ.out.2 HZ.out.2.size hb2); clear htc hb2))
    go_loopg [23] (len + 1) (fun kq v23 wr => ∃ (j : Nat), v23 = .int .i64 (j : Int) ∧ Aside0 (Below wA.heap.size wA wr ∧ j + kq = len + 1 ∧ j ≤ len))
    case atStart => exact ⟨0, rfl, ⟨Below.refl _ _, by omega, by omega⟩⟩
    case round =>
      obtain ⟨j, rfl, HI⟩ := hrel
      have hj := HI.out.2.2
      have hba := HI.out.1
      by_cases hl : j < len
      · have q2 : decide ((j : Int) < (len : Int)) = true := decide_eq_true (by omega)
        obtain ⟨ad, r, hA, hp⟩ := HR.out j hl
        subst hA
        have hp1 := (hp.below HBA.out).below hba
        have c0 := hp1.c0
        have p1 : (0 ≤ (j : Int)) = True := eq_true (by omega)
        have p2 : ((j : Int) < (len : Int)) = True := eq_true (by omega)
        have hwr := wrap_i32 hp1.wa
        have HBW := Aside0.mk hba
        have HLJ := Aside0.mk hl
        have HD := Aside0.mk (fun W (h : Pz W (w.heap.size + 1 + 1 + 1) w.heap.size (w.heap.size + 1) (w.heap.size + 1 + 1) 1000000000 T.m T.dn T.up T.sec) => down_calls h.ps r hp1.wa)
        have HX := Aside0.mk (fun W (h : Pz W (w.heap.size + 1 + 1 + 1) w.heap.size (w.heap.size + 1) (w.heap.size + 1 + 1) 1000000000 T.m T.dn T.up T.sec) => excl_calls h.ps r hp1.wa)
        have HS := Aside0.mk (fun W (h : Pz W (w.heap.size + 1 + 1 + 1) w.heap.size (w.heap.size + 1) (w.heap.size + 1 + 1) 1000000000 T.m T.dn T.up T.sec) => second_calls h r hp1.wa)
        have HRD := Aside0.mk (fun W (h : Kd.C k53 W TA xs.length xs) => rdown_calls W TA tc xs h HT.out.hm r)
        have HRX := Aside0.mk (fun W (h : Kd.C k53 W TA xs.length xs) => rexcl_calls W TA tc xs h HT.out.hm r)
        have HRS := Aside0.mk (fun W (h : Kd.C k53 W TA xs.length xs) => rsec_calls W TA tc xs h HT.out.hm r)
        obtain ⟨hw1, hw2⟩ := downV_rng HDR.out r
        have he41 := eq41
        rw [HT.out.dn r] at HRD
        rw [HT.out.ex r] at HRX
        rw [HT.out.sec r] at HRS
        generalize downV T.dn r = dv at HD HRD hw1 hw2
        obtain ⟨a, b, n⟩ := dv
        simp only at HD HRD hw1 hw2
        generalize exclV T.dn r = xv at HX HRX
        generalize decide (0 < (T.sec r).getD 0) = sv at HS HRS
        clear hp hp1 hba hl hj
        go_wp2_with (first
          | (go_at_call 12; (with_reducible refine (HD.out _ (HZA.out.after HBW.out)).mono ?_); rintro e w2 ⟨rfl, hb⟩; have HBW := Aside0.mk (below_then HBW.out HBW.out.size hb); clear hb)
          | (go_at_call 18; (with_reducible refine (HRD.out _ (Kd.C_below HC.out HBW.out)).mono ?_); rintro e w3 ⟨rfl, hb⟩; have HBW := Aside0.mk (below_then HBW.out HBW.out.size hb); have d0 := blk_cell (blk_new w3 (.cells #[.int .i64 a, .int .i64 b] 41)) 0; have d1 := blk_cell (blk_new w3 (.cells #[.int .i64 a, .int .i64 b] 41)) 1; clear hb)
          | (go_at_call 13; (with_reducible refine (HX.out _ (HZA.out.after (below_alloc HBW.out _))).mono ?_); rintro e w5 ⟨rfl, hb⟩; have HBW := Aside0.mk (below_then (below_alloc HBW.out _) (below_alloc HBW.out _).size hb); clear hb)
          | (go_at_call 19; (with_reducible refine (HRX.out _ (Kd.C_below HC.out HBW.out)).mono ?_); rintro e w6 ⟨rfl, hb⟩; have HBW := Aside0.mk (below_then HBW.out HBW.out.size hb); clear hb)
          | (go_at_call 20; (with_reducible refine (HS.out _ (HZA.out.after HBW.out)).mono ?_); rintro e w7 ⟨rfl, hb⟩; have HBW := Aside0.mk (below_then HBW.out HBW.out.size hb); clear hb)
          | (go_at_call 21; (with_reducible refine (HRS.out _ (Kd.C_below HC.out HBW.out)).mono ?_); rintro e w8 ⟨rfl, hb⟩; have HBW := Aside0.mk (below_then HBW.out HBW.out.size hb); clear hb))
        cases gk with
        | zero => have := HI.out.2.1; have := HLJ.out; omega
        | succ q =>
        go_roundg q
        case measure => omega
        case rel => exact ⟨j + 1, nx5 HLJ.out HL.out, ⟨HBW.out, by have := HI.out.2.1; omega, by have := HLJ.out; omega⟩⟩
      · have q2 : decide ((j : Int) < (len : Int)) = false := decide_eq_false (by omega)
        have q3 : decide (j < len) = false := decide_eq_false hl
        have HPZ := Aside0.mk (HZA.out.after HI.out.1)
        have HBW := Aside0.mk HI.out.1
        clear hj hba hl
        go_wp2_with (first
          | (go_at_call 22; (with_reducible refine (HLn.out _ (HZA.out.after HBW.out)).mono ?_); rintro e w2 ⟨rfl, hb⟩; have HBW := Aside0.mk (below_then HBW.out HBW.out.size hb); clear hb)
          | (go_at_call 8; (with_reducible refine (HA.out _ (HZA.out.after HBW.out)).mono ?_); rintro e w2 ⟨rfl, hb⟩; have HBW := Aside0.mk (below_then HBW.out HBW.out.size hb); clear hb))
        go_ret
        exact ⟨rfl, below_then HBA.out HBA.out.size HBW.out⟩
end Go.Proofs.Ytejkfochijgkdaa.Pr
