/- whole. -/
import Derived.Test.YtonmollpimoaoaaSe
namespace Go.Proofs.Ytonmollpimoaoaa.Sa
open Go.RowKit Go.Maps Go.Proofs.Ytonmollpimoaoaa.MapF Go.Proofs.Ytonmollpimoaoaa.Stg Go.Proofs.YtonmollpimoaoaaW.PrintWords Go.Proofs.YtonmollpimoaoaaW.PrintLast Go.Proofs.YtonmollpimoaoaaW.PrintMore
set_option linter.unusedVariables false
set_option linter.unusedSimpArgs false
theorem putR_snoc {α : Type} (v : α) : ∀ (i b : Nat) (l : List α), putR v (i + 1) b l = (putR v i b l).set (b + i) v
  | 0, b, l => rfl
  | i + 1, b, l => by
    rw [putR, putR_snoc v i (b + 1) (l.set b v), putR]
    congr 1
    omega
theorem w64 {x : Int} (h : -9223372036854775808 ≤ x ∧ x ≤ 9223372036854775807) : wrap64 x = x := by unfold wrap64; omega
attribute [-simp] Try.sizeOf56 Try.typeInfo56
set_option maxHeartbeats 8000000 in
theorem whole_calls (W : World) (base M TB IX SM : Nat) (bv : Value) (o : Int) (s : St) (b tt : Nat) (v : Int) (h : Mk W base M TB IX SM bv o s) (hbase : base ≤ W.heap.size) (hn : s.blks.length < 60000) (hc : s.cur < 4352) (ho : (Lit.int .i64 o).wf = true) (hv : (Lit.int .i64 v).wf = true) (hto : tt ≤ 1114111) (hk : b < (tt + 1) / 256) :
    Calls Try.prog 21 #[.pointer (some ⟨M, 0, none⟩), .int .i64 (b : Int), .int .i64 (tt : Int), .int .i64 v] W fun e w' => e = .returned (.int .i64 (((tt + 1) / 256 * 256 : Nat) : Int)) ∧ (∃ bv', Mk w' base M TB IX SM bv' o (whole o s b ((tt + 1) / 256 - b) v)) ∧ Fr base W w' := by
  have HT := Aside0.mk (turn_calls W base M TB IX SM bv o s b h hbase (by omega) hc (by omega) ho)
  have HB := Aside0.mk hbase
  have HV := Aside0.mk hv
  have HTO := Aside0.mk hto
  have HKK := Aside0.mk hk
  have HLN := Aside0.mk (show (turn o s b).blks.length < 65535 by
    unfold turn
    split
    · omega
    · have := (addB_le s.blks s.now).2
      show (addB s.blks s.now).length < 65535
      omega)
  have hfa := fun W : World => congrArg (fun r => r.andThen fun a w' => Result.ok (Next.value a) w') (field3 W M)
  simp [go_sem] at hfa
  obtain ⟨e, he⟩ : ∃ e, e = (tt + 1) / 256 := ⟨_, rfl⟩
  rw [← he]
  have HE := Aside0.mk he
  clear h hbase hn hc ho hv hto hk he
  go_enter Try.func21, Try.ntmps21
  go_wp2_with (first
    | (go_at_call 22; refine HT.out.mono ?_; rintro e1 w1 ⟨rfl, ⟨bv1, hk⟩, hf⟩; have HK1 := Aside0.mk hk; have HF1 := Aside0.mk hf; clear hk hf)
    | (go_at_call 16; refine (blank_calls _ _ v).mono ?_; rintro e1 w2 ⟨rfl, hb2⟩; have HK2 := Aside0.mk (HK1.out.after hb2); have HF2 := Aside0.mk (HF1.out.trans (Fr.of_below hb2 (Nat.le_trans HB.out HF1.out.below.size)) HB.out); clear hb2)
    | ((with_reducible refine gate_store (t := 56) (p := 18) (v := .tmp 16) rfl ?_); refine store_now rfl (.tmp 18) (.tmp 16) rfl rfl (rep v) rfl rfl HK2.out HF2.out HB.out (rep_len v) (rep_wf HV.out) ?_; intro w3 hk3 hf3; have hl := congrArg (fun r => r.andThen fun a w' => Result.ok (Next.value a) w') (load56_run w3 M 3 (rep v) (rep_len v) hk3.now_range); simp [go_sem] at hl; have HK3 := Aside0.mk hk3; have HF3 := Aside0.mk hf3; clear hk3 hf3)
    | (go_at_call 17; refine (number_calls w3 base M TB IX SM bv1 o _ (rep v) HK3.out (rep_len v) (rep_wf HV.out) (Nat.le_trans HB.out HF3.out.below.size) HLN.out).mono ?_; rintro e1 w4 ⟨rfl, ⟨bv4, hk4⟩, hf4⟩; have HK4 := Aside0.mk hk4; have HF4 := Aside0.mk (HF3.out.trans hf4 HB.out); clear hk4 hf4 hl))
  obtain ⟨n, hnn⟩ : ∃ n, n = List.idxOf (rep v) (turn o s b).blks := ⟨_, rfl⟩
  rw [← hnn]
  have HNN := Aside0.mk hnn
  clear hnn
  go_loopg [1] (e + 1) (fun kq v1 wr => ∃ (j : Nat), v1 = .int .i64 (j : Int) ∧ Aside0 (Mk wr base M TB IX SM bv4 o { idx := putR n (j - b) b (turn o s b).idx, blks := addB (turn o s b).blks (rep v), cur := (turn o s b).cur, now := rep v } ∧ Fr base W wr ∧ j + kq = b + e + 1 ∧ b ≤ j ∧ j ≤ e))
  case atStart => exact ⟨b, rfl, ⟨by rw [Nat.sub_self]; exact HK4.out, HF4.out, by have := HKK.out; rw [← HE.out] at this; omega, Nat.le_refl _, by have := HKK.out; rw [← HE.out] at this; omega⟩⟩
  case round =>
    obtain ⟨j, rfl, HI⟩ := hrel
    have hj := HI.out.2.2.2
    have hee := HE.out
    have htt := HTO.out
    have e1 : wrap64 ((j : Int) + 1) = (j : Int) + 1 := w64 (by omega)
    have e2 : wrap64 (((j : Int) + 1) * 256) = ((j : Int) + 1) * 256 := w64 (by omega)
    have e3 : wrap64 (((j : Int) + 1) * 256 - 1) = ((j : Int) + 1) * 256 - 1 := w64 (by omega)
    have c0 := (blk_cell HI.out.1.hm 0).trans (cm0 _ _ _ _)
    have d0 : wr.cell? ⟨TB, 0, none⟩ = some (.slice (some ⟨IX, 0, none⟩) 4352 4352) := (blk_cell HI.out.1.ht 0).trans rfl
    by_cases hl : j < e
    · have q1 : decide (((j : Int) + 1) * 256 - 1 ≤ (tt : Int)) = true := decide_eq_true (by omega)
      have x0 : wr.cell? ⟨IX, j, none⟩ = _ := (blk_cell HI.out.1.hx j).trans (uA_get _ _ (by rw [HI.out.1.li]; omega))
      have f0 : wr.frozen? ⟨IX, j, none⟩ = false := blk_frozen HI.out.1.hx j
      have p1 : (0 ≤ (j : Int)) = True := eq_true (by omega)
      have p2 : ((j : Int) < 4352) = True := eq_true (by omega)
      have p3 : (j < 4352) = True := eq_true (by omega)
      have HLJ := Aside0.mk hl
      clear hl hj hee htt
      go_wp2
      cases gk with
      | zero => have := HI.out.2.2.1; have := HLJ.out; omega
      | succ q =>
      go_roundg q
      case measure => omega
      case rel =>
        refine ⟨j + 1, by congr 1, ⟨?_, HI.out.2.1.setIdx HI.out.1 j _, by have := HI.out.2.2.1; omega, by have := HI.out.2.2.2; omega, by have := HLJ.out; omega⟩⟩
        have hb := HI.out.2.2.2.1
        have := HI.out.1.setIdx j n
        rw [show j + 1 - b = (j - b) + 1 by omega, putR_snoc, show b + (j - b) = j by omega]
        exact this
    · have q1 : decide (((j : Int) + 1) * 256 - 1 ≤ (tt : Int)) = false := decide_eq_false (by omega)
      obtain rfl : j = e := by omega
      have hbk : b < j := by have := HKK.out; omega
      have e4 : wrap64 ((j : Int) - 1) = ((j - 1 : Nat) : Int) := by rw [w64 (by omega)]; omega
      have e5 : wrap64 ((j : Int) * 256) = ((j * 256 : Nat) : Int) := by rw [w64 (by omega)]; omega
      have c2 := (blk_cell HI.out.1.hm 2).trans (cm2 _ _ _ _)
      have f2 := blk_frozen HI.out.1.hm 2
      have HBK := Aside0.mk hbk
      clear hl hj hee htt hbk
      go_wp2
      go_ret
      refine ⟨rfl, ⟨bv4, ?_⟩, HI.out.2.1.setM HI.out.1 2 _⟩
      have hk := HI.out.1.setCur (j - 1)
      have hbk := HBK.out
      have e6 : whole o s b (j - b) v = { idx := putR n (j - b) b (turn o s b).idx, blks := addB (turn o s b).blks (rep v), cur := j - 1, now := rep v } := by
        unfold whole
        rw [← HNN.out, show b + (j - b) - 1 = j - 1 by omega]
      rw [e6]
      exact hk
end Go.Proofs.Ytonmollpimoaoaa.Sa
