/- The law PairMakes, walked. -/
import Derived.Test.YtejkfochijgkdaaPa
import Derived.Test.YtejkfochijgkdaaPd
import Derived.OpenShut
namespace Go.Proofs.Ytejkfochijgkdaa.Pr
open Go.RowKit Go.Maps Go.Proofs.Ytejkfochijgkdaa.MapF Go.Proofs.YtejkfochijgkdaaW.PrintWords Go.Proofs.YtejkfochijgkdaaW.PrintLast Go.Proofs.YtejkfochijgkdaaW.PrintMore
open Go.Proofs.Ytejkfochijgkdaa.Pt (k53 rDown rExcl rUp rSec rup_calls rdown_calls rexcl_calls rsec_calls)
set_option linter.unusedVariables false
set_option linter.unusedSimpArgs false
/-- Two runes, as they lie in a slice. -/
structure PairAt (w : World) (x : Addr) (a b : Int) : Prop where
  spot : x.spot = none
  c0 : w.cell? x = some (.int .i32 a)
  c1 : w.cell? ⟨x.block, x.off + 1, none⟩ = some (.int .i32 b)
  wa : (Lit.int .i32 a).wf = true
  wb : (Lit.int .i32 b).wf = true
theorem PairAt.below {w w1 : World} {x : Addr} {a b : Int} (h : PairAt w x a b) (hb : Below w.heap.size w w1) : PairAt w1 x a b :=
  ⟨h.spot, pw_cell_below hb h.c0, pw_cell_below hb h.c1, h.wa, h.wb⟩
/-- What is known of the two tables. -/
structure Both (T : S) (xs : List (Int × Int × Int)) : Prop where
  new : ∀ w, Calls Try.prog 7 #[] w fun e w' => e = .returned (.pointer (some ⟨w.heap.size + 1 + 1 + 1, 0, none⟩)) ∧ Pz w' (w.heap.size + 1 + 1 + 1) w.heap.size (w.heap.size + 1) (w.heap.size + 1 + 1) 1000000000 T.m T.dn T.up T.sec ∧ Below w.heap.size w w'
  all : ∀ w, Calls Try.prog 9 #[] w fun e w' => ∃ A c, e = .returned (.slice A xs.length c) ∧ Kd.C k53 w' A xs.length xs ∧ Below w.heap.size w w'
  hm : xs.length ≤ 100000
  d233 : downV T.dn 233 = (101, 769, 2)
  u233 : T.up 101 769 = some 233
  up : ∀ a b, rUp xs xs a b = (T.up a b).getD (-1)
  ur : ∀ a b z, T.up a b = some z → 0 ≤ z ∧ z ≤ 1114111
  dn : ∀ r, rDown xs r = downV T.dn r
  ex : ∀ r, rExcl xs r = exclV T.dn r
  sec : ∀ r, rSec xs xs r = decide (0 < (T.sec r).getD 0)
  len : T.m = xs.length
theorem wrap64_in (n : Int) (h : -9223372036854775808 ≤ n ∧ n ≤ 9223372036854775807) : wrap64 n = n := by unfold wrap64; omega
theorem wrap_i32 {a : Int} (h : (Lit.int .i32 a).wf = true) : wrap64 a = a := by
  simp [Lit.wf, IntKind.min, IntKind.max, IntKind.signed, IntKind.bits] at h
  exact wrap64_in a (by omega)
theorem nx5 {j n : Nat} (h : j < n) (hn : n ≤ 9223372036854775807) : Value.int .i64 (wrap64 ((j : Int) + 1)) = .int .i64 ((j + 1 : Nat) : Int) := by
  congr 1
  unfold wrap64
  omega
set_option maxHeartbeats 8000000 in
theorem makes_walk (T : S) (xs : List (Int × Int × Int)) (H : Both T xs) (A : Option Addr) (len cap : Nat) (w : World) (hR : ∀ j, j < len → ∃ x a b, A = some x ∧ PairAt w (x.add (j * 2)) a b) (hlen : len ≤ 9223372036854775807) :
    Calls Try.prog 3 #[.slice A len cap] w fun e w' => e = .returned (.bool true) ∧ Below w.heap.size w w' := by
  have HT := Aside0.mk H
  have HR := Aside0.mk hR
  have HL := Aside0.mk hlen
  have HN := Aside0.mk (H.new w)
  have HA := Aside0.mk (fun W (h : Pz W (w.heap.size + 1 + 1 + 1) w.heap.size (w.heap.size + 1) (w.heap.size + 1 + 1) 1000000000 T.m T.dn T.up T.sec) => awake_calls h H.d233 H.u233)
  have HU := Aside0.mk (fun W a b (h : Pz W (w.heap.size + 1 + 1 + 1) w.heap.size (w.heap.size + 1) (w.heap.size + 1 + 1) 1000000000 T.m T.dn T.up T.sec) (ha : (Lit.int .i32 a).wf = true) (hb : (Lit.int .i32 b).wf = true) => up_calls h.ps a b ha hb)
  clear H hR hlen
  by_cases hl : 40 < len
  · have q1 : decide (40 < (len : Int)) = true := decide_eq_true (by omega)
    go_enter Try.func3, Try.ntmps3
    go_wp2_with (first
      | (go_at_call 7; refine HN.out.mono ?_; rintro e w1 ⟨rfl, hz⟩; have HZ := Aside0.mk hz; clear hz)
      | (go_at_call 8; (with_reducible refine (HA.out _ HZ.out.1).mono ?_); rintro e w2 ⟨rfl, hb2⟩; have HB := Aside0.mk (below_then HZ.out.2 HZ.out.2.size hb2); clear hb2))
    go_ret
    exact ⟨rfl, HB.out⟩
  · have q1 : decide (40 < (len : Int)) = false := decide_eq_false (by omega)
    go_enter Try.func3, Try.ntmps3
    go_wp2_with (first
      | (go_at_call 7; refine HN.out.mono ?_; rintro e w1 ⟨rfl, hz⟩; have HZ := Aside0.mk hz; clear hz)
      | (go_at_call 9; (with_reducible refine (HT.out.all _).mono ?_); rintro e wA ⟨TA, tc, rfl, htc, hb2⟩; have HZA := Aside0.mk (HZ.out.1.after hb2); have HC := Aside0.mk htc; have HBA := Aside0.mk (below_then HZ.out.2 HZ.out.2.size hb2); clear htc hb2))
    go_loopg [21] (len + 1) (fun kq v21 wr => ∃ (j : Nat), v21 = .int .i64 (j : Int) ∧ Aside0 (Below wA.heap.size wA wr ∧ j + kq = len + 1 ∧ j ≤ len))
    case atStart => exact ⟨0, rfl, ⟨Below.refl _ _, by omega, by omega⟩⟩
    case round =>
      obtain ⟨j, rfl, HI⟩ := hrel
      have hj := HI.out.2.2
      have hba := HI.out.1
      by_cases hl : j < len
      · have q2 : decide ((j : Int) < (len : Int)) = true := decide_eq_true (by omega)
        obtain ⟨ad, a, b, hA, hp⟩ := HR.out j hl
        subst hA
        have hp1 := (hp.below HBA.out).below hba
        have c0 := hp1.c0
        have c1 := hp1.c1
        have hs := hp1.spot
        have p1 : (0 ≤ (j : Int)) = True := eq_true (by omega)
        have p2 : ((j : Int) < (len : Int)) = True := eq_true (by omega)
        have HWA := Aside0.mk hp1.wa
        have HWB := Aside0.mk hp1.wb
        have HBW := Aside0.mk hba
        have HLJ := Aside0.mk hl
        clear hp hp1 hba hl hj
        have HBK := Aside0.mk (blk_new wr (.cells #[.int .i32 a, .int .i32 b] 28))
        have HPZ := Aside0.mk ((HZA.out.after HBW.out).after (below_alloc (Below.refl wr.heap.size wr) (.cells #[.int .i32 a, .int .i32 b] 28)))
        have hwa := wrap_i32 HWA.out
        have hwb := wrap_i32 HWB.out
        have hua := HU.out _ a b HPZ.out HWA.out HWB.out
        have hup := HT.out.up a b
        cases hu : T.up a b with
        | none =>
          rw [hu] at hup hua
          simp only [Option.getD_none, Option.isSome_none] at hup hua
          have HUA := Aside0.mk hua
          clear hu hua
          go_wp2_with (first
            | (go_at_call 10; (with_reducible refine HUA.out.mono ?_); rintro e w2 ⟨rfl, hb2⟩; have HB2 := Aside0.mk hb2; have d0 := blk_cell (blk_below HBK.out hb2) 0; have d1 := blk_cell (blk_below HBK.out hb2) 1; have HC2 := Aside0.mk (Kd.C_below (Kd.C_below HC.out HBW.out) (below_then (below_alloc (Below.refl _ _) _) (below_alloc (Below.refl _ _) _).size hb2)); clear hb2)
            | (go_at_call 11; (with_reducible refine (rup_calls _ TA tc xs HC2.out HT.out.hm a b).mono ?_); rintro e w3 ⟨rfl, hb3⟩; have HB3 := Aside0.mk (below_then (below_then (below_alloc HBW.out _) (below_alloc HBW.out _).size HB2.out) (below_then (below_alloc HBW.out _) (below_alloc HBW.out _).size HB2.out).size hb3); clear hb3))
          cases gk with
          | zero => have := HI.out.2.1; have := HLJ.out; omega
          | succ q =>
          go_roundg q
          case measure => omega
          case rel => exact ⟨j + 1, nx5 HLJ.out HL.out, ⟨HB3.out, by have := HI.out.2.1; omega, by have := HLJ.out; omega⟩⟩
        | some z =>
          rw [hu] at hup hua
          simp only [Option.getD_some, Option.isSome_some] at hup hua
          have HUA := Aside0.mk hua
          have hz := HT.out.ur a b z hu
          have hwz : wrap64 z = z := wrap64_in z (by omega)
          have hz0 : decide (0 ≤ z) = true := decide_eq_true hz.1
          clear hu hua hz
          go_wp2_with (first
            | (go_at_call 10; (with_reducible refine HUA.out.mono ?_); rintro e w2 ⟨rfl, hb2⟩; have HB2 := Aside0.mk hb2; have d0 := blk_cell (blk_below HBK.out hb2) 0; have d1 := blk_cell (blk_below HBK.out hb2) 1; have HC2 := Aside0.mk (Kd.C_below (Kd.C_below HC.out HBW.out) (below_then (below_alloc (Below.refl _ _) _) (below_alloc (Below.refl _ _) _).size hb2)); clear hb2)
            | (go_at_call 11; (with_reducible refine (rup_calls _ TA tc xs HC2.out HT.out.hm a b).mono ?_); rintro e w3 ⟨rfl, hb3⟩; have HB3 := Aside0.mk (below_then (below_then (below_alloc HBW.out _) (below_alloc HBW.out _).size HB2.out) (below_then (below_alloc HBW.out _) (below_alloc HBW.out _).size HB2.out).size hb3); clear hb3))
          cases gk with
          | zero => have := HI.out.2.1; have := HLJ.out; omega
          | succ q =>
          go_roundg q
          case measure => omega
          case rel => exact ⟨j + 1, nx5 HLJ.out HL.out, ⟨HB3.out, by have := HI.out.2.1; omega, by have := HLJ.out; omega⟩⟩
      · have q2 : decide ((j : Int) < (len : Int)) = false := decide_eq_false (by omega)
        have q3 : decide (j < len) = false := decide_eq_false hl
        have HPZ := Aside0.mk (HZA.out.after HI.out.1)
        have HB0 := Aside0.mk (below_then HBA.out HBA.out.size HI.out.1)
        clear hj hba hl
        go_wp2_with (first
          | (go_at_call 8; (with_reducible refine (HA.out _ HPZ.out).mono ?_); rintro e w2 ⟨rfl, hb2⟩; have HB := Aside0.mk (below_then HB0.out HB0.out.size hb2); clear hb2))
        go_ret
        exact ⟨rfl, HB.out⟩
end Go.Proofs.Ytejkfochijgkdaa.Pr
